/- The Go functions as plain Lean functions,by program. -/
import Derived.Test.YthlielagemkjcaaGreatDoorBase
import Derived.Laws.BytesArg
import Derived.Lib.Atoi
import Derived.Lib.IndexMore
import Derived.Lib.ItoaNum
import Derived.Lib.Join
import Derived.Lib.Split
import Derived.Lib.Strings
namespace Go.Proofs.YthlielagemkjcaaGreatDoor
open Go
noncomputable section
structure Apx where
  L:List Int
  at_:Int
  deriving DecidableEq,Inhabited
structure Fp where
  Key:ByteArray
  Metres:Int
  Stroke:Int
  Course:Int
  Legs:Int
  Sex:Int
  Young:Int
  Old:Int
  deriving DecidableEq,Inhabited
structure Il where
  Points:List Int
  Relay:Int
  Most:Int
  deriving DecidableEq,Inhabited
structure Mp where
  Size:Int
  Many:Int
  Reserves:Int
  deriving DecidableEq,Inhabited
structure Ge where
  Races:List Fp
  Table:Il
  Final:Mp
  deriving DecidableEq,Inhabited
structure Gf where
  Low:Int
  High:Int
  Least:Int
  Circles:Int
  deriving DecidableEq,Inhabited
structure An where
  Site:ByteArray
  No:Int
  At:Int
  Kind:Int
  Who:ByteArray
  Club:ByteArray
  Race:ByteArray
  Time:Int
  Fault:Int
  Of:ByteArray
  Other:Int
  deriving DecidableEq,Inhabited
structure Fu where
  site_:ByteArray
  no_:Int
  deriving DecidableEq,Inhabited
structure Jr where
  p_:Ge
  deeds_:List An
  deriving DecidableEq,Inhabited
structure Fh where
  Num:Int
  Den:Int
  deriving DecidableEq,Inhabited
structure Fo where
  Rank:Int
  Who:ByteArray
  Club:ByteArray
  Time:Int
  Fault:Int
  Points:Fh
  deriving DecidableEq,Inhabited
structure Fi where
  Who:ByteArray
  Time:Int
  deriving DecidableEq,Inhabited
structure Je where
  Who:ByteArray
  Fault:Int
  Reports:List ByteArray
  deriving DecidableEq,Inhabited
structure Fj where
  Who:ByteArray
  Rank:Int
  Time:Int
  Fault:Int
  deriving DecidableEq,Inhabited
structure Fd where
  Race:ByteArray
  Who:ByteArray
  Club:ByteArray
  Rank:Int
  Relay:Bool
  deriving DecidableEq,Inhabited
structure Fw where
  race_:ByteArray
  who_:ByteArray
  deriving DecidableEq,Inhabited
structure Fx where
  Key:ByteArray
  Points:Fh
  deriving DecidableEq,Inhabited
structure Fl where
  x_:Fd
  points_:Fh
  deriving DecidableEq,Inhabited
structure Ft where
  Who:ByteArray
  Heat:Int
  Lane:Int
  deriving DecidableEq,Inhabited
structure Hu where
  Name:ByteArray
  Value:ByteArray
  deriving DecidableEq,Inhabited
structure Lf where
  is_:Bool
  e_:Int
  deriving DecidableEq,Inhabited
def Ff:ByteArray:=⟨#[]⟩
def GQ:ByteArray:=⟨#[114,97]⟩
def UV:ByteArray:=⟨#[114,98]⟩
def Aab:ByteArray:=⟨#[114,99]⟩
def QD:ByteArray:=⟨#[115,97]⟩
def Zd:ByteArray:=⟨#[98,108,117,101]⟩
def k_sb:ByteArray:=⟨#[115,98]⟩
def Acy:ByteArray:=⟨#[97,110,110]⟩
def k_bea:ByteArray:=⟨#[98,101,97]⟩
def k_cid:ByteArray:=⟨#[99,105,100]⟩
def k_dan:ByteArray:=⟨#[100,97,110]⟩
def k_rz:ByteArray:=⟨#[114,122]⟩
def IG:ByteArray:=⟨#[114,101,100]⟩
def k_A:ByteArray:=⟨#[65]⟩
def MT:ByteArray:=⟨#[114,101,115,117,108,116,32,114,97,10]⟩
def MU:ByteArray:=⟨#[114,101,115,117,108,116,32,114,98,10]⟩
def MV:ByteArray:=⟨#[114,101,115,117,108,116,32,122,122,10]⟩
def PC:ByteArray:=⟨#[104,101,97,116,115,32,114,97,10]⟩
def PD:ByteArray:=⟨#[104,101,97,116,115,32,114,98,10]⟩
def Aac:ByteArray:=⟨#[99,108,117,98,115,10]⟩
def UW:ByteArray:=⟨#[109,105,115,115,105,110,103,10]⟩
def QR:ByteArray:=⟨#[119,104,111,32,97,110,110,10]⟩
def QS:ByteArray:=⟨#[119,104,111,32,98,101,97,10]⟩
def UX:ByteArray:=⟨#[119,104,111,32,65,10]⟩
def XQ:ByteArray:=⟨#[97,116,32,48,10]⟩
def UY:ByteArray:=⟨#[97,116,32,54,48,10]⟩
def UZ:ByteArray:=⟨#[97,116,32,49,48,10]⟩
def QT:ByteArray:=⟨#[97,116,32,45,49,10]⟩
def XR:ByteArray:=⟨#[97,116,32,120,10]⟩
def Ahp:ByteArray:=⟨#[104,101,121,10]⟩
def XS:ByteArray:=⟨#[114,101,115,117,108,116,10]⟩
def MW:ByteArray:=⟨#[99,108,117,98,115,32,110,111,119,10]⟩
def Kw:ByteArray:=⟨#[10]⟩
def Up:ByteArray:=⟨#[99,108,117,98,115]⟩
def k_x:ByteArray:=⟨#[120]⟩
def Hx:ByteArray:=⟨#[97,98,99,100,101,102,103,104,105,106,107,108,109,110,111,112,113,114,115,116,117,118,119,120,121,122,48,49,50,51,52,53,54,55,56,57,45,95]⟩
def Gy:ByteArray:=⟨#[32]⟩
def YI:ByteArray:=⟨#[97,116]⟩
def BK:ByteArray:=⟨#[45]⟩
def VA:ByteArray:=⟨#[48,49,50,51,52,53,54,55,56,57]⟩
def k_0:ByteArray:=⟨#[48]⟩
def k_ok:ByteArray:=⟨#[111,107]⟩
def Uw:ByteArray:=⟨#[114,101,115,117,108,116]⟩
def LJ:ByteArray:=⟨#[46]⟩
def QU:ByteArray:=⟨#[58]⟩
def XT:ByteArray:=⟨#[47]⟩
def AB:ByteArray:=⟨#[104,101,97,116,115]⟩
def LK:ByteArray:=⟨#[119,104,111]⟩
def Wm:ByteArray:=⟨#[32,101,110,116,101,114,32]⟩
def Wr:ByteArray:=⟨#[109,105,115,115,105,110,103]⟩
def Sp:ByteArray:=⟨#[101,114,114,111,114,32]⟩
def Js:ByteArray:=⟨#[97,98,99,100,101,102,103,104,105,106,107,108,109,110,111,112,113,114,115,116,117,118,119,120,121,122]⟩
def k_r:ByteArray:=⟨#[114]⟩
def k_s:ByteArray:=⟨#[115]⟩
def k_a:ByteArray:=⟨#[97]⟩
def Ww(p_x:Int)(p_n:Int):Option Int:=
  if decide (p_n<1) then
  some 0
  else
  Chk (!decide (p_n=0)) (
  Fq (fun(x1:Int)=>
  some x1) (λj1=>
  if decide ((Int.tmod p_x p_n)<0) then
  j1 (W ((Int.tmod p_x p_n)+p_n))
  else
  j1 (Int.tmod p_x p_n)))
def Th(p_s_L:List Int)(p_s_at:Int)(p_n:Int):Option (Int×Int):=
  if decide ((p_s_L.length:Int)=0) then
  Option.bind (Ww (W ((W (p_s_at+1))*7919)) p_n) (λr1=>
  some (r1,W (p_s_at+1)))
  else
  Chk (!decide ((p_s_L.length:Int)=0)) (
  Chk (!decide ((p_s_L.length:Int)=0)) (
  Chk (inB (Int.tmod (W ((W (p_s_at+1))-1)) (p_s_L.length:Int)) p_s_L.length) (
  Option.bind (Ww (nth p_s_L (Int.tmod (W ((W (p_s_at+1))-1)) (p_s_L.length:Int))) 1073741824) (λr2=>
  Option.bind (Ww (W (r2+(W ((W (Int.tdiv (W ((W (p_s_at+1))-1)) (p_s_L.length:Int)))*(W (7919+(Int.tmod (W ((W (p_s_at+1))-1)) (p_s_L.length:Int)))))))) p_n) (λr3=>
  some (r3,W (p_s_at+1)))))))
def Oc(p_s_L:List Int)(p_s_at:Int)(p_n:Int):Option (Bool×Int):=
  Option.bind (Th p_s_L p_s_at p_n) (λr1=>
  some (decide (r1.1=0),r1.2))
def Iz(p_s_L:List Int)(p_s_at:Int)(p_l:List Int):Option (Int×Int):=
  Option.bind (Th p_s_L p_s_at (p_l.length:Int)) (λr1=>
  Chk (inB r1.1 p_l.length) (
  some ((nth p_l r1.1),r1.2)))
def Vp(p_s_L:List Int)(p_s_at:Int)(p_key:ByteArray):Option (Fp×Int):=
  Option.bind (Iz p_s_L p_s_at [50,100,200]) (λr1=>
  Option.bind (Iz p_s_L r1.2 [1,2,3,4]) (λr2=>
  Option.bind (Iz p_s_L r2.2 [25,50]) (λr3=>
  Option.bind (Iz p_s_L r3.2 [1,1,1,4]) (λr4=>
  Option.bind (Iz p_s_L r4.2 [0,1,2]) (λr5=>
  Option.bind (Iz p_s_L r5.2 [0,0,5,10]) (λr6=>
  Option.bind (Iz p_s_L r6.2 [0,5,90]) (λr7=>
  some ((Fp.mk p_key r1.1 r2.1 r3.1 r4.1 r5.1 r6.1 (W (r6.1+r7.1))),r7.2))))))))
def Od(p_s_L:List Int)(j1:(List Fp)->Int->Option ((List Fp)×Int)):List ByteArray->Nat->(List Fp)->Int->Option ((List Fp)×Int)
  |[],_,x1,x2=>j1 x1 x2
  |y1::ys1,i1,x1,x2=>Fq (fun(x3:List Fp) (x4:Int)=>
  Od p_s_L j1 ys1 (i1+1) x3 x4) (λj2=>
  Option.bind (Oc p_s_L x2 6) (λr1=>
  Fq (fun(x5:List Fp) (x6:Int)=>
  j2 x5 x6) (λj3=>
  if !r1.1 then
  Option.bind (Vp p_s_L r1.2 y1) (λr2=>
  Chk (Ja x1.length) (
  j3 (x1++[r2.1]) r2.2))
  else
  j3 x1 r1.2)))
def Tx(p_s_L:List Int)(p_s_at:Int):Option ((List Fp)×Int):=
  Fq (fun(x1:List Fp) (x2:Int)=>
  some (x1,x2)) (λj1=>
  Od p_s_L j1 ([GQ,UV,Aab]:List ByteArray) 0 ([]:List Fp) p_s_at)
def Nj(p_s_L:List Int)(p_s_at:Int)(p_low:Int)(p_high:Int):Option (Int×Int):=
  if decide (p_high<p_low) then
  some (p_low,p_s_at)
  else
  Option.bind (Th p_s_L p_s_at (W ((W (p_high-p_low))+1))) (λr1=>
  some (W (p_low+r1.1),r1.2))
def Sa(r4:Int×Int)(p_s_L:List Int)(j1:(List Int)->Int->Option (Il×Int)):Nat->(List Int)->Int->Int->Int->Option (Il×Int)
  |0,_,_,_,_=>none
  |m1+1,x1,x2,x3,x4=>if decide (x4<r4.1) then
  Chk (Ja x1.length) (
  Option.bind (Iz p_s_L x2 [0,1,2,3]) (λr5=>
  Sa r4 p_s_L j1 m1 (x1++[x3]) r5.2 (YF 0 (W (x3-r5.1))) (W (x4+1))))
  else
  j1 x1 x2
def Ve(p_s_L:List Int)(p_s_at:Int):Option (Il×Int):=
  Option.bind (Iz p_s_L p_s_at [1,2]) (λr1=>
  Option.bind (Iz p_s_L r1.2 [0,0,1,2]) (λr2=>
  Option.bind (Iz p_s_L r2.2 [10,9,7,5]) (λr3=>
  Option.bind (Nj p_s_L r3.2 0 5) (λr4=>
  Fq (fun(x1:List Int) (x2:Int)=>
  some ((Il.mk x1 r1.1 r2.1),x2)) (λj1=>
  Sa r4 p_s_L j1 ((r4.1-0).toNat+2) ([]:List Int) r4.2 r3.1 0)))))
def Qa(j1:(List Fp)->Option (List Fp)):Nat->(List Fp)->Int->Int->Option (List Fp)
  |0,_,_,_=>none
  |m1+1,x1,x2,x3=>if decide (x2<x3) then
  Chk (inB x3 x1.length) (
  Chk (inB x2 x1.length) (
  Chk (inB x2 x1.length) (
  Chk (inB x3 (x1.set x2.toNat (nth x1 x3)).length) (
  Qa j1 m1 ((x1.set x2.toNat (nth x1 x3)).set x3.toNat (nth x1 x2)) (W (x2+1)) (W (x3-1))))))
  else
  j1 x1
def Vw(p_s:List Fp):Option (List Fp):=
  Fq (fun(x1:List Fp)=>
  some x1) (λj1=>
  Qa j1 (((W ((p_s.length:Int)-1))-0).toNat+2) p_s 0 (W ((p_s.length:Int)-1)))
def Ze(p_s_L:List Int)(p_s_at:Int):Option (Ge×Int):=
  Option.bind (Tx p_s_L p_s_at) (λr1=>
  Option.bind (Ve p_s_L r1.2) (λr2=>
  Option.bind (Nj p_s_L r2.2 1 3) (λr3=>
  Option.bind (Nj p_s_L r3.2 1 2) (λr4=>
  Option.bind (Nj p_s_L r4.2 0 2) (λr5=>
  Option.bind (Vw r1.1) (λr6=>
  some ((Ge.mk r6 r2.1 (Mp.mk r3.1 r4.1 r5.1)),r5.2)))))))
def Nd(p_s_L:List Int)(p_s_at:Int)(p_l:List ByteArray):Option (ByteArray×Int):=
  Option.bind (Th p_s_L p_s_at (p_l.length:Int)) (λr1=>
  Chk (inB r1.1 p_l.length) (
  some ((nth p_l r1.1),r1.2)))
def Mv(p_s_L:List Int)(p_s_at:Int)(p_low:Int)(p_high:Int):Option (Int×Int):=
  Option.bind (Oc p_s_L p_s_at 12) (λr1=>
  if r1.1 then
  Option.bind (Iz p_s_L r1.2 [W (p_low-1),W (p_high+1),p_low,p_high,(-1099511627776),1099511627776]) (λr2=>
  some (r2.1,r2.2))
  else
  Option.bind (Nj p_s_L r1.2 p_low p_high) (λr3=>
  some (r3.1,r3.2)))
def Wy(p_s_L:List Int)(p_s_at:Int):Option ((List Fp)×Int):=
  Option.bind (Tx p_s_L p_s_at) (λr1=>
  Fq (fun(x1:Int) (x2:Bool)=>
  Fq (fun(x3:List Fp) (x4:Int)=>
  some (x3,x4)) (λj2=>
  if x2 then
  Option.bind (Th p_s_L x1 (r1.1.length:Int)) (λr3=>
  Chk (inB r3.1 r1.1.length) (
  Option.bind (Nd p_s_L r3.2 [(nth r1.1 r3.1).Key,Ff,GQ]) (λr4=>
  Option.bind (Mv p_s_L r4.2 1 4) (λr5=>
  Option.bind (Iz p_s_L r5.2 [25,50,33]) (λr6=>
  Option.bind (Iz p_s_L r6.2 [0,1,2,3]) (λr7=>
  j2 ((((r1.1.set r3.1.toNat (Fp.mk r4.1 ((nth r1.1 r3.1).Metres) ((nth r1.1 r3.1).Stroke) ((nth r1.1 r3.1).Course) ((nth r1.1 r3.1).Legs) ((nth r1.1 r3.1).Sex) ((nth r1.1 r3.1).Young) ((nth r1.1 r3.1).Old))).set r3.1.toNat (Fp.mk r4.1 ((nth r1.1 r3.1).Metres) ((nth r1.1 r3.1).Stroke) ((nth r1.1 r3.1).Course) r5.1 ((nth r1.1 r3.1).Sex) ((nth r1.1 r3.1).Young) ((nth r1.1 r3.1).Old))).set r3.1.toNat (Fp.mk r4.1 ((nth r1.1 r3.1).Metres) ((nth r1.1 r3.1).Stroke) r6.1 r5.1 ((nth r1.1 r3.1).Sex) ((nth r1.1 r3.1).Young) ((nth r1.1 r3.1).Old))).set r3.1.toNat (Fp.mk r4.1 ((nth r1.1 r3.1).Metres) ((nth r1.1 r3.1).Stroke) r6.1 r5.1 r7.1 ((nth r1.1 r3.1).Young) ((nth r1.1 r3.1).Old))) r7.2))))))
  else
  j2 r1.1 x1)) (λj1=>
  if(decide (0<(r1.1.length:Int))) then
  Option.bind (Oc p_s_L r1.2 12) (λr2=>
  j1 r2.2 r2.1)
  else
  j1 r1.2 false))
def Zf(p_s:List Int):Option (List Int):=
  Chk (decide ((([]:List Int):List Int).length+p_s.length<1073741824)) (
  some ((([]:List Int):List Int)++p_s))
def EU(p_s_L:List Int)(p_s_at:Int):Option (Il×Int):=
  Option.bind (Ve p_s_L p_s_at) (λr1=>
  Option.bind (Oc p_s_L r1.2 12) (λr2=>
  Fq (fun(x1:List Int) (x2:Int) (x3:Int) (x4:Int)=>
  some ((Il.mk x1 x2 x3),x4)) (λj1=>
  if r2.1 then
  Option.bind (Mv p_s_L r2.2 1 10) (λr3=>
  Option.bind (Mv p_s_L r3.2 0 10) (λr4=>
  Option.bind (Zf r1.1.Points) (λr5=>
  Option.bind (Mv p_s_L r4.2 0 20) (λr6=>
  Chk (Ja r5.length) (
  j1 (r5++[r6.1]) r3.1 r4.1 r6.2)))))
  else
  j1 r1.1.Points r1.1.Relay r1.1.Most r2.2)))
def AT(p_s_L:List Int)(p_s_at:Int):Option (Ge×Int):=
  Option.bind (Ze p_s_L p_s_at) (λr1=>
  Option.bind (Oc p_s_L r1.2 12) (λr2=>
  Fq (fun(x1:List Int) (x2:Int) (x3:Int) (x4:Int) (x5:Int) (x6:Int) (x7:List Fp) (x8:Int)=>
  some ((Ge.mk x7 (Il.mk x1 x2 x3) (Mp.mk x4 x5 x6)),x8)) (λj1=>
  if r2.1 then
  Option.bind (Th p_s_L r2.2 3) (λr3=>
  Fq (fun(x9:List Int) (x10:Int) (x11:Int) (x12:Int) (x13:Int) (x14:Int) (x15:List Fp) (x16:Int)=>
  j1 x9 x10 x11 x12 x13 x14 x15 x16) (λj2=>
  Fq (fun(x17:List Int) (x18:Int) (x19:Int) (x20:Int) (x21:Int) (x22:Int) (x23:List Fp) (x24:Int)=>
  j2 x17 x18 x19 x20 x21 x22 x23 x24) (λj3=>
  if decide (r3.1=0) then
  Option.bind (Wy p_s_L r3.2) (λr4=>
  Chk (decide (r1.1.Races.length+r4.1.length<1073741824)) (
  j3 r1.1.Table.Points r1.1.Table.Relay r1.1.Table.Most r1.1.Final.Size r1.1.Final.Many r1.1.Final.Reserves (r1.1.Races++r4.1) r4.2))
  else
  Fq (fun(x25:List Int) (x26:Int) (x27:Int) (x28:Int) (x29:Int) (x30:Int) (x31:Int)=>
  j3 x25 x26 x27 x28 x29 x30 r1.1.Races x31) (λj4=>
  if decide (r3.1=1) then
  Option.bind (EU p_s_L r3.2) (λr5=>
  j4 r5.1.Points r5.1.Relay r5.1.Most r1.1.Final.Size r1.1.Final.Many r1.1.Final.Reserves r5.2)
  else
  Option.bind (Mv p_s_L r3.2 1 10) (λr6=>
  Option.bind (Mv p_s_L r6.2 1 5) (λr7=>
  Option.bind (Mv p_s_L r7.2 0 10) (λr8=>
  j4 r1.1.Table.Points r1.1.Table.Relay r1.1.Table.Most r6.1 r7.1 r8.1 r8.2)))))))
  else
  j1 r1.1.Table.Points r1.1.Table.Relay r1.1.Table.Most r1.1.Final.Size r1.1.Final.Many r1.1.Final.Reserves r1.1.Races r2.2)))
def AU(p_s_L:List Int)(p_s_at:Int):Option (Gf×Int):=
  Option.bind (Iz p_s_L p_s_at [0,1,1]) (λr1=>
  Option.bind (Iz p_s_L r1.2 [3,4,8]) (λr2=>
  Option.bind (Iz p_s_L r2.2 [1,2]) (λr3=>
  Option.bind (Iz p_s_L r3.2 [1,2,3]) (λr4=>
  Option.bind (Oc p_s_L r4.2 15) (λr5=>
  Fq (fun(x1:Int) (x2:Int) (x3:Int) (x4:Int) (x5:Int)=>
  some ((Gf.mk x1 x2 x3 x4),x5)) (λj1=>
  if r5.1 then
  Option.bind (Mv p_s_L r5.2 1 3) (λr6=>
  Option.bind (Mv p_s_L r6.2 1 10) (λr7=>
  Option.bind (Mv p_s_L r7.2 1 3) (λr8=>
  Option.bind (Mv p_s_L r8.2 1 10) (λr9=>
  j1 r6.1 r7.1 r8.1 r9.1 r9.2))))
  else
  j1 (YF 1 r1.1) r2.1 r3.1 r4.1 r5.2))))))
def Td(r1:Int×Int)(j1:(List An)->Option ((List An)×Int)):Nat->(List An)->Int->Option ((List An)×Int)
  |0,_,_=>none
  |m1+1,x1,x2=>if decide (x2<r1.1) then
  Chk (Ja x1.length) (
  Td r1 j1 m1 (x1++[(An.mk QD (W ((W (2*x2))+1)) 0 1 (Utf8.encode (IntKind.wrap .i32 (W (97+x2)))) Zd GQ 0 0 Ff 0),(An.mk QD (W ((W (2*x2))+2)) 0 3 (Utf8.encode (IntKind.wrap .i32 (W (97+x2)))) Ff GQ 6000 0 Ff 0)]) (W (x2+1)))
  else
  j1 x1
def CP(p_s_L:List Int)(p_s_at:Int):Option ((List An)×Int):=
  Option.bind (Nj p_s_L p_s_at 9 12) (λr1=>
  Fq (fun(x1:List An)=>
  some (x1,r1.2)) (λj1=>
  Td r1 j1 ((r1.1-0).toNat+2) ([]:List An) 0))
def Sb(r1:Int×Int)(j1:(List An)->Option ((List An)×Int)):Nat->(List An)->Int->Option ((List An)×Int)
  |0,_,_=>none
  |m1+1,x1,x2=>if decide (x2<(W (300+r1.1))) then
  Chk (decide ((Utf8.encode (IntKind.wrap .i32 (W (97+(W (Int.tdiv x2 26)))))).size+(Utf8.encode (IntKind.wrap .i32 (W (97+(Int.tmod x2 26))))).size<1073741824)) (
  Chk (Ja x1.length) (
  Sb r1 j1 m1 (x1++[(An.mk QD (W (x2+1)) 0 1 ((Utf8.encode (IntKind.wrap .i32 (W (97+(W (Int.tdiv x2 26))))))++(Utf8.encode (IntKind.wrap .i32 (W (97+(Int.tmod x2 26)))))) Ff GQ 0 0 Ff 0)]) (W (x2+1))))
  else
  j1 x1
def BL(p_s_L:List Int)(p_s_at:Int):Option ((List An)×Int):=
  Option.bind (Nj p_s_L p_s_at 0 1) (λr1=>
  Fq (fun(x1:List An)=>
  some (x1,r1.2)) (λj1=>
  Sb r1 j1 (((W (300+r1.1))-0).toNat+2) ([]:List An) 0))
def Rf(p_n:Int):Int:=
  if decide (p_n<0) then
  (-1)
  else
  if decide (0<p_n) then
  1
  else
  0
def Ic(s t:ByteArray):Int:=Lib.compareBytes s.data.toList t.data.toList
def Rr(p_a:An)(p_b:An):Int:=
  if !decide (p_a.At=p_b.At) then
  (Rf (W (p_a.At-p_b.At)))
  else
  if !decide (p_a.Site=p_b.Site) then
  (Ic p_a.Site p_b.Site)
  else
  (Rf (W (p_a.No-p_b.No)))
def Gk(p_a:Int)(j2:(List An)->Option (List An)):Nat->(List An)->Int->Option (List An)
  |0,_,_=>none
  |m2+1,x3,x4=>Fq (fun(x5:Bool)=>
  if x5 then
  Chk (inB (W (x4-1)) x3.length) (
  Chk (inB x4 x3.length) (
  Chk (inB x4 x3.length) (
  Chk (inB (W (x4-1)) (x3.set x4.toNat (nth x3 (W (x4-1)))).length) (
  Gk p_a j2 m2 ((x3.set x4.toNat (nth x3 (W (x4-1)))).set ((W (x4-1)).toNat) (nth x3 x4)) (W (x4-1))))))
  else
  j2 x3) (λj3=>
  if decide (p_a<x4) then
  Chk (inB x4 x3.length) (
  Chk (inB (W (x4-1)) x3.length) (
  j3 (decide ((Rr (nth x3 x4) (nth x3 (W (x4-1))))<0))))
  else
  j3 false)
def Hp(p_b:Int)(p_a:Int)(j1:(List An)->Option (List An)):Nat->(List An)->Int->Option (List An)
  |0,_,_=>none
  |m1+1,x1,x2=>if decide (x2<p_b) then
  Fq (fun(x3:List An)=>
  Hp p_b p_a j1 m1 x3 (W (x2+1))) (λj2=>
  Gk p_a j2 ((x2-p_a).toNat+2) x1 x2)
  else
  j1 x1
def Ha(p_data:List An)(p_a:Int)(p_b:Int):Option (List An):=
  Fq (fun(x1:List An)=>
  some x1) (λj1=>
  Hp p_b p_a j1 ((p_b-(W (p_a+1))).toNat+2) p_data (W (p_a+1)))
def Ip(p_n:Int)(j1:(List An)->Int->Option (List An)):Nat->(List An)->Int->Int->Option (List An)
  |0,_,_,_=>none
  |m1+1,x1,x2,x3=>if decide (x3<=p_n) then
  Option.bind (Ha x1 x2 x3) (λr1=>
  Ip p_n j1 m1 r1 x3 (W (x3+20)))
  else
  j1 x1 x2
def Mg(p_n:Int)(j3:Int->Option (List An)):Nat->Int->Int->Option (List An)
  |0,_,_=>none
  |_+1,x5,x6=>if decide (x6<=p_n) then
  none
  else
  j3 x5
def Iq(p_n:Int)(j2:Option (List An)):Nat->Int->Option (List An)
  |0,_=>none
  |m2+1,x4=>if decide (x4<p_n) then
  Fq (fun(x5:Int)=>
  if decide ((W (x5+x4))<p_n) then
  none
  else
  Iq p_n j2 m2 (W (x4*2))) (λj3=>
  Mg p_n j3 ((p_n-(W (2*x4))).toNat+2) 0 (W (2*x4)))
  else
  j2
def Kh(p_data:List An)(p_n:Int):Option (List An):=
  Fq (fun(x1:List An) (x2:Int)=>
  Option.bind (Ha x1 x2 p_n) (λr2=>
  Fq (some r2) (λj2=>
  Iq p_n j2 ((p_n-20).toNat+2) 20))) (λj1=>
  Ip p_n j1 ((p_n-20).toNat+2) p_data 0 20)
def Hv(p_x:List An):Option (List An):=
  Option.bind (Kh p_x (p_x.length:Int)) (λr1=>
  some r1)
def Xw(p_many:Int)(p_s_L:List Int)(j1:(List (ByteArray×Int))->(List An)->Int->Option ((List An)×Int)):Nat->(List (ByteArray×Int))->(List An)->Int->Int->Int->Option ((List An)×Int)
  |0,_,_,_,_,_=>none
  |m1+1,x1,x2,x3,x4,x5=>if decide (x5<p_many) then
  Option.bind (Iz p_s_L x3 [0,1,5]) (λr1=>
  Option.bind (Nd p_s_L r1.2 [QD,QD,k_sb]) (λr2=>
  Option.bind (Iz p_s_L r2.2 [1,1,1,3,3,3,2,4]) (λr3=>
  Fq (fun(x6:ByteArray) (x7:ByteArray) (x8:Int)=>
  Fq (fun(x9:ByteArray) (x10:Int) (x11:Int) (x12:ByteArray) (x13:Int) (x14:Int)=>
  Option.bind (Oc p_s_L x14 100) (λr12=>
  Fq (fun(x29:ByteArray) (x30:Int) (x31:Int) (x32:ByteArray) (x33:ByteArray) (x34:ByteArray) (x35:Int) (x36:Int) (x37:Int) (x38:Int)=>
  Chk (Ja x2.length) (
  Xw p_many p_s_L j1 m1 (Iv x1 r2.1 (W ((Gm x1 r2.1 0)+1))) (x2++[(An.mk x29 x30 (W (x4+r1.1)) x31 x32 x33 x34 x35 x36 x12 x37)]) x38 (W (x4+r1.1)) (W (x5+1)))) (λj7=>
  if r12.1 then
  Option.bind (Th p_s_L r12.2 4) (λr13=>
  Fq (fun(x39:ByteArray) (x40:Int) (x41:Int) (x42:ByteArray) (x43:ByteArray) (x44:ByteArray) (x45:Int) (x46:Int) (x47:Int) (x48:Int)=>
  j7 x39 x40 x41 x42 x43 x44 x45 x46 x47 x48) (λj8=>
  Fq (fun(x49:ByteArray) (x50:Int) (x51:Int) (x52:ByteArray) (x53:ByteArray) (x54:ByteArray) (x55:Int) (x56:Int) (x57:Int) (x58:Int)=>
  j8 x49 x50 x51 x52 x53 x54 x55 x56 x57 x58) (λj9=>
  if decide (r13.1=0) then
  Option.bind (Nd p_s_L r13.2 [Ff,QD]) (λr14=>
  Option.bind (Mv p_s_L r14.2 1 9) (λr15=>
  j9 r14.1 r15.1 r3.1 x6 x9 x7 x10 x11 x13 r15.2))
  else
  Fq (fun(x59:Int) (x60:ByteArray) (x61:ByteArray) (x62:ByteArray) (x63:Int) (x64:Int) (x65:Int) (x66:Int)=>
  j9 r2.1 (Gm (Iv x1 r2.1 (W ((Gm x1 r2.1 0)+1))) r2.1 0) x59 x60 x61 x62 x63 x64 x65 x66) (λj10=>
  if decide (r13.1=1) then
  Option.bind (Mv p_s_L r13.2 1 4) (λr16=>
  j10 r16.1 x6 x9 x7 x10 x11 x13 r16.2)
  else
  Fq (fun(x67:ByteArray) (x68:ByteArray) (x69:ByteArray) (x70:Int) (x71:Int) (x72:Int) (x73:Int)=>
  j10 r3.1 x67 x68 x69 x70 x71 x72 x73) (λj11=>
  if decide (r13.1=2) then
  Option.bind (Nd p_s_L r13.2 [Ff,Acy]) (λr17=>
  Option.bind (Nd p_s_L r17.2 [k_A,Zd]) (λr18=>
  Option.bind (Nd p_s_L r18.2 [Ff,GQ]) (λr19=>
  j11 r17.1 r18.1 r19.1 x10 x11 x13 r19.2)))
  else
  Option.bind (Mv p_s_L r13.2 0 360000) (λr20=>
  Option.bind (Mv p_s_L r20.2 0 8) (λr21=>
  Option.bind (Mv p_s_L r21.2 0 5) (λr22=>
  j11 x6 x9 x7 r20.1 r21.1 r22.1 r22.2))))))))
  else
  j7 r2.1 (Gm (Iv x1 r2.1 (W ((Gm x1 r2.1 0)+1))) r2.1 0) r3.1 x6 x9 x7 x10 x11 x13 r12.2))) (λj3=>
  Fq (fun(x15:ByteArray) (x16:Int) (x17:Int) (x18:ByteArray) (x19:Int) (x20:Int)=>
  j3 x15 x16 x17 x18 x19 x20) (λj4=>
  if decide (r3.1=1) then
  Option.bind (Nd p_s_L x8 [Zd,IG,Ff]) (λr6=>
  Option.bind (Iz p_s_L r6.2 [0,5900,6000,7000]) (λr7=>
  j4 r6.1 r7.1 0 Ff 0 r7.2))
  else
  Fq (fun(x21:Int) (x22:Int) (x23:ByteArray) (x24:Int) (x25:Int)=>
  j4 Ff x21 x22 x23 x24 x25) (λj5=>
  if decide (r3.1=3) then
  Option.bind (Iz p_s_L x8 [0,5900,5900,6000,6100]) (λr8=>
  Option.bind (Iz p_s_L r8.2 [0,0,0,0,3]) (λr9=>
  j5 r8.1 r9.1 Ff 0 r9.2))
  else
  Fq (fun(x26:ByteArray) (x27:Int) (x28:Int)=>
  j5 0 0 x26 x27 x28) (λj6=>
  if decide (r3.1=4) then
  Option.bind (Nd p_s_L x8 [QD,QD,k_sb]) (λr10=>
  Option.bind (Nj p_s_L r10.2 1 (YF 1 (Gm (Iv x1 r2.1 (W ((Gm x1 r2.1 0)+1))) QD 0))) (λr11=>
  j6 r10.1 r11.1 r11.2))
  else
  j6 Ff 0 x8))))) (λj2=>
  if !decide (r3.1=4) then
  Option.bind (Nd p_s_L r3.2 [Acy,k_bea,k_cid,k_dan]) (λr4=>
  Option.bind (Nd p_s_L r4.2 [GQ,GQ,UV,k_rz]) (λr5=>
  j2 r4.1 r5.1 r5.2))
  else
  j2 Ff Ff r3.2))))
  else
  j1 x1 x2 x3
def EV(p_s_L:List Int)(p_s_at:Int)(p_many:Int):Option ((List An)×Int):=
  Fq (fun(_:List (ByteArray×Int)) (x2:List An) (x3:Int)=>
  Option.bind (Hv x2) (λr23=>
  some (r23,x3))) (λj1=>
  Xw p_many p_s_L j1 ((p_many-0).toNat+2) ([]:List (ByteArray×Int)) ([]:List An) p_s_at 0 0)
def Wz(p_s_L:List Int)(p_s_at:Int)(p_many:Int):Option ((List An)×Int):=
  Option.bind (Oc p_s_L p_s_at 15) (λr1=>
  if r1.1 then
  Option.bind (CP p_s_L r1.2) (λr2=>
  some (r2.1,r2.2))
  else
  Option.bind (Oc p_s_L r1.2 60) (λr3=>
  if r3.1 then
  Option.bind (BL p_s_L r3.2) (λr4=>
  some (r4.1,r4.2))
  else
  Option.bind (Nj p_s_L r3.2 0 p_many) (λr5=>
  Option.bind (EV p_s_L r5.2 r5.1) (λr6=>
  some (r6.1,r6.2)))))
def Ty(r1:Int×Int)(p_s_L:List Int)(j1:Int->ByteArray->Option (ByteArray×Int)):Nat->Int->ByteArray->Int->Option (ByteArray×Int)
  |0,_,_,_=>none
  |m1+1,x1,x2,x3=>if decide (x3<r1.1) then
  Option.bind (Nd p_s_L x1 [MT,MU,MV,PC,PD,Aac,UW,QR,QS,UX,XQ,UY,UZ,QT,XR,Ahp,XS,MW,Kw]) (λr2=>
  Chk (decide (x2.size+r2.1.size<1073741824)) (
  Ty r1 p_s_L j1 m1 r2.2 (x2++r2.1) (W (x3+1))))
  else
  j1 x1 x2
def DO(p_s_L:List Int)(p_s_at:Int):Option (ByteArray×Int):=
  Option.bind (Nj p_s_L p_s_at 0 5) (λr1=>
  Fq (fun(x1:Int) (x2:ByteArray)=>
  Option.bind (Oc p_s_L x1 20) (λr3=>
  Fq (fun(x4:Int) (x5:ByteArray)=>
  some (x5,x4)) (λj2=>
  if r3.1 then
  Option.bind (Nd p_s_L r3.2 [Up,k_x]) (λr4=>
  Chk (decide (x2.size+r4.1.size<1073741824)) (
  j2 r4.2 (x2++r4.1)))
  else
  j2 r3.2 x2))) (λj1=>
  Ty r1 p_s_L j1 ((r1.1-0).toNat+2) r1.2 Ff 0))
def Wg(s c:ByteArray):Option ByteArray:=
  Chk (decide (s.size<=9223372036854775807)) (Chk (decide (c.size<4294967281)) (Chk (c.data.toList.all λb=>decide (b.toNat<128)) (some ⟨(Lib.trimS s.data.toList c.data.toList).toArray⟩)))
def Gh(p_s:ByteArray):Option Bool:=
  Fq (fun(c1:Bool)=>
  Fq (fun(c2:Bool)=>
  Fq (fun(c3:Bool)=>
  some c3) (λj3=>
  if c2 then Option.bind (Wg p_s Hx) (λr1=>
  j3 (c2 && (decide (r1=Ff)))) else j3 (c2 && true))) (λj2=>
  if c1 then Chk (inB 0 p_s.size) (
  j2 (c1 && (decide ((LD p_s 0)<=122)))) else j2 (c1 && true))) (λj1=>
  if((decide (1<=(p_s.size:Int))) && (decide ((p_s.size:Int)<=40))) then Chk (inB 0 p_s.size) (
  j1 (((decide (1<=(p_s.size:Int))) && (decide ((p_s.size:Int)<=40))) && (decide (97<=(LD p_s 0))))) else j1 (((decide (1<=(p_s.size:Int))) && (decide ((p_s.size:Int)<=40))) && true))
def Fv(p_n:Int)(p_low:Int)(p_high:Int):Bool:=
  ((decide (p_low<=p_n)) && (decide (p_n<=p_high)))
def Md(p_r:Fp):Option Int:=
  Option.bind (Gh p_r.Key) (λr1=>
  if !r1 then
  some 5
  else
  if((!(Fv p_r.Stroke 1 5))||(!(Fv p_r.Sex 0 2))) then
  some 4
  else
  if(((((((!decide (p_r.Course=25)) && (!decide (p_r.Course=50)))||(!(Fv p_r.Legs 1 4)))||(!(Fv p_r.Metres 25 1500)))||(decide (p_r.Young<0)))||(decide (p_r.Old<p_r.Young)))||(decide (120<p_r.Old))) then
  some 1
  else
  Chk (!decide (p_r.Course=0)) (
  if !decide ((Int.tmod p_r.Metres p_r.Course)=0) then
  some 3
  else
  Fq (fun(c1:Bool)=>
  Fq (fun(x1:Bool)=>
  if x1 then
  some 16
  else
  some 0) (λj2=>
  if c1 then
  j2 c1
  else
  j2 (((decide (p_r.Stroke=5)) && (decide (1<p_r.Legs))) && (!decide (p_r.Legs=4))))) (λj1=>
  if((decide (p_r.Stroke=5)) && (decide (p_r.Legs=1))) then Chk (!decide ((W (4*p_r.Course))=0)) (
  j1 (((decide (p_r.Stroke=5)) && (decide (p_r.Legs=1))) && (!decide ((Int.tmod p_r.Metres (W (4*p_r.Course)))=0)))) else j1 (((decide (p_r.Stroke=5)) && (decide (p_r.Legs=1))) && true))))
def BM(p_x:Fp)(p_a1:Fp):Bool:=
  decide (p_x.Key=p_a1.Key)
def Ii(p_f_0:Fp)(j1:Int):List Fp->Nat->Int
  |[],_=>j1
  |y1::ys1,i1=>if(BM y1 p_f_0) then
  (i1:Int)
  else
  Ii p_f_0 j1 ys1 (i1+1)
def Mc(p_s:List Fp)(p_f_0:Fp):Int:=
  Fq ((-1)) (λj1=>
  Ii p_f_0 j1 p_s 0)
def Jk(p_s:List Fp)(p_f_0:Fp):Bool:=
  decide (0<=(Mc p_s p_f_0))
def Sc(p_t:Il)(j1:Option Int):List Int->Nat->Option Int
  |[],_=>j1
  |y1::ys1,i1=>if !(Fv y1 0 10000) then
  some 1
  else
  Fq (fun(c1:Bool)=>
  if c1 then
  some 7
  else
  Sc p_t j1 ys1 (i1+1)) (λj2=>
  if(decide (0<(i1:Int))) then Chk (inB (W ((i1:Int)-1)) p_t.Points.length) (
  j2 ((decide (0<(i1:Int))) && (decide ((nth p_t.Points (W ((i1:Int)-1)))<y1)))) else j2 ((decide (0<(i1:Int))) && true))
def Sq(p_t:Il):Option Int:=
  if decide (40<(p_t.Points.length:Int)) then
  some 2
  else
  Fq (if((!(Fv p_t.Relay 1 10))||(!(Fv p_t.Most 0 10))) then
  some 1
  else
  some 0) (λj1=>
  Sc p_t j1 p_t.Points 0)
def Xx(p_f:Mp):Int:=
  if(((!(Fv p_f.Size 1 10))||(!(Fv p_f.Many 1 5)))||(!(Fv p_f.Reserves 0 10))) then
  1
  else
  0
def Vg(p_p:Ge)(j1:Option Int):List Fp->Nat->Option Int
  |[],_=>j1
  |y1::ys1,i1=>Option.bind (Md y1) (λr1=>
  if !decide (r1=0) then
  some r1
  else
  Chk (Tv 0 (i1:Int) p_p.Races.length) (
  if(Jk (cut p_p.Races 0 (i1:Int)) y1) then
  some 6
  else
  Vg p_p j1 ys1 (i1+1)))
def Sr(p_p:Ge):Option Int:=
  if decide (100<(p_p.Races.length:Int)) then
  some 2
  else
  Fq (Option.bind (Sq p_p.Table) (λr2=>
  if !decide (r2=0) then
  some r2
  else
  some (Xx p_p.Final))) (λj1=>
  Vg p_p j1 p_p.Races 0)
def Mw(p_p:Gf):Int:=
  if((((decide (10<p_p.High))||(!(Fv p_p.Low 1 p_p.High)))||(!(Fv p_p.Least 1 (W ((W (p_p.High-p_p.Low))+1)))))||(!(Fv p_p.Circles 1 10))) then
  1
  else
  0
def Hf(p_n:Int):Bool:=
  ((decide (0<=p_n)) && (decide (p_n<345686400000)))
def Xa(p_x:An):Option Int:=
  Option.bind (Gh p_x.Site) (λr1=>
  if !r1 then
  some 5
  else
  if((!(Fv p_x.No 1 1000000))||(!(Hf p_x.At))) then
  some 1
  else
  if !(Fv p_x.Kind 1 4) then
  some 4
  else
  Fq (fun(c1:Bool)=>
  Fq (fun(x1:Bool)=>
  if x1 then
  some 5
  else
  Fq (fun(x2:Bool)=>
  if x2 then
  some 1
  else
  Fq (fun(c4:Bool)=>
  if c4 then
  some 5
  else
  if((decide (p_x.Kind=4)) && (!(Fv p_x.Other 1 1000000))) then
  some 1
  else
  Fq (fun(x3:ByteArray) (x4:ByteArray) (x5:ByteArray) (x6:Int) (x7:Int) (x8:ByteArray) (x9:Int)=>
  if !decide (p_x=(An.mk p_x.Site p_x.No p_x.At p_x.Kind x3 x4 x5 x6 x7 x8 x9)) then
  some 3
  else
  some 0) (λj7=>
  Fq (fun(x10:ByteArray) (x11:ByteArray) (x12:ByteArray) (x13:Int) (x14:Int) (x15:ByteArray) (x16:Int)=>
  j7 x10 x11 x12 x13 x14 x15 x16) (λj8=>
  if decide (p_x.Kind=1) then
  j8 p_x.Who p_x.Club p_x.Race p_x.Time 0 Ff 0
  else
  Fq (fun(x17:ByteArray) (x18:ByteArray) (x19:Int) (x20:Int) (x21:ByteArray) (x22:Int)=>
  j8 x17 Ff x18 x19 x20 x21 x22) (λj9=>
  if decide (p_x.Kind=3) then
  j9 p_x.Who p_x.Race p_x.Time p_x.Fault Ff 0
  else
  Fq (fun(x23:ByteArray) (x24:ByteArray) (x25:ByteArray) (x26:Int)=>
  j9 x23 x24 0 0 x25 x26) (λj10=>
  if decide (p_x.Kind=4) then
  j10 Ff Ff p_x.Of p_x.Other
  else
  j10 p_x.Who p_x.Race Ff 0))))) (λj6=>
  if(decide (p_x.Kind=4)) then Option.bind (Gh p_x.Of) (λr5=>
  j6 ((decide (p_x.Kind=4)) && (!r5))) else j6 ((decide (p_x.Kind=4)) && true))) (λj5=>
  if(((decide (p_x.Kind=1))||(decide (p_x.Kind=3))) && (!(Fv p_x.Time 0 360000))) then
  j5 (((decide (p_x.Kind=1))||(decide (p_x.Kind=3))) && (!(Fv p_x.Time 0 360000)))
  else
  j5 ((decide (p_x.Kind=3)) && (!(Fv p_x.Fault 0 8))))) (λj3=>
  if c1 then
  j3 c1
  else
  Fq (fun(c3:Bool)=>
  j3 c3) (λj4=>
  if((decide (p_x.Kind=1)) && (!decide (p_x.Club=Ff))) then Option.bind (Gh p_x.Club) (λr4=>
  j4 (((decide (p_x.Kind=1)) && (!decide (p_x.Club=Ff))) && (!r4))) else j4 (((decide (p_x.Kind=1)) && (!decide (p_x.Club=Ff))) && true)))) (λj1=>
  if(!(decide (p_x.Kind=4))) then Option.bind (Gh p_x.Who) (λr2=>
  Fq (fun(c2:Bool)=>
  j1 ((!(decide (p_x.Kind=4))) && c2)) (λj2=>
  if(!r2) then j2 ((!r2)||true) else Option.bind (Gh p_x.Race) (λr3=>
  j2 ((!r2)||(!r3))))) else j1 ((!(decide (p_x.Kind=4))) && true)))
def Wn(p_x:Int):Bool:=
  !decide (p_x=p_x)
def Jt(p_x:Int)(p_y:Int):Int:=
  if(Wn p_x) then
  if(Wn p_y) then
  0
  else
  (-1)
  else
  if(Wn p_y) then
  1
  else
  if decide (p_x<p_y) then
  (-1)
  else
  if decide (p_y<p_x) then
  1
  else
  0
def Nw(j1:Int):List Int->Nat->Int
  |[],_=>j1
  |y1::ys1,i1=>if !decide (y1=0) then
  y1
  else
  Nw j1 ys1 (i1+1)
def Ss(p_vals:List Int):Int:=
  Fq (0) (λj1=>
  Nw j1 p_vals 0)
def Ri(p_a:An)(p_b:An):Int:=
  (Ss [(Jt p_a.At p_b.At),(Ic p_a.Site p_b.Site),(Jt p_a.No p_b.No)])
def Fz(p_x:An):Fu:=
  (Fu.mk p_x.Site p_x.No)
def Ks(p_l:List An)(j1:(List (Fu×Bool))->Bool->Option Int):List An->Nat->(List (Fu×Bool))->Bool->Option Int
  |[],_,x1,x2=>j1 x1 x2
  |y1::ys1,i1,x1,x2=>Option.bind (Xa y1) (λr1=>
  if !decide (r1=0) then
  some r1
  else
  Fq (fun(x3:Bool)=>
  if x3 then
  some 7
  else
  Ks p_l j1 ys1 (i1+1) (Iv x1 (Fz y1) true) (x2||(Gm x1 (Fz y1) false))) (λj2=>
  if decide (0<(i1:Int)) then
  Chk (inB (W ((i1:Int)-1)) p_l.length) (
  j2 (decide (0<=(Ri (nth p_l (W ((i1:Int)-1))) y1))))
  else
  j2 false))
def Rj(p_l:List An):Option Int:=
  if decide (2000<(p_l.length:Int)) then
  some 2
  else
  Fq (fun(_:List (Fu×Bool)) (x2:Bool)=>
  if x2 then
  some 6
  else
  some 0) (λj1=>
  Ks p_l j1 p_l 0 ([]:List (Fu×Bool)) false)
def Tp(p_s:ByteArray)(p_suffix:ByteArray):Option Bool:=
  Fq (fun(c1:Bool)=>
  some c1) (λj1=>
  if(decide ((p_suffix.size:Int)<=(p_s.size:Int))) then Chk (Tv (W ((p_s.size:Int)-(p_suffix.size:Int))) (p_s.size:Int) p_s.size) (
  j1 ((decide ((p_suffix.size:Int)<=(p_s.size:Int))) && (decide ((KY p_s (W ((p_s.size:Int)-(p_suffix.size:Int))) p_s.size)=p_suffix)))) else j1 ((decide ((p_suffix.size:Int)<=(p_s.size:Int))) && true))
def Qr(p_s:ByteArray)(p_suffix:ByteArray):Option Bool:=
  Option.bind (Tp p_s p_suffix) (λr1=>
  some r1)
def GY(s:ByteArray)(sep:ByteArray):Option (List ByteArray):=
  Chk (decide (s.size<4294967281) && decide (1<=sep.size)) (some (Lib.splitB sep 0 (Lib.countB s sep) s))
def EW(j1:Option ((List ByteArray)×Bool)):List ByteArray->Nat->Option ((List ByteArray)×Bool)
  |[],_=>j1
  |y1::ys1,i1=>if decide (y1=Ff) then
  some (([]:List ByteArray),false)
  else
  EW j1 ys1 (i1+1)
def Qs(p_line:ByteArray):Option ((List ByteArray)×Bool):=
  Option.bind (GY p_line Gy) (λr1=>
  Fq (some (r1,true)) (λj1=>
  EW j1 r1 0))
def Lk(s:ByteArray)(p:ByteArray):ByteArray×Bool:=
  (⟨(Lib.trimPrefix s.data.toList p.data.toList).toArray⟩,Lib.hasPrefix s.data.toList p.data.toList)
def JB(s:ByteArray):Option Int:=
  Chk (decide (s.size<=18)) (Lib.atoi s.data.toList)
def JC(p_s:ByteArray)(p_most:Int):Option (Int×Bool):=
  Fq (fun(c1:Bool)=>
  Fq (fun(c2:Bool)=>
  if c2 then
  some (0,false)
  else
  Option.bind (JB p_s) (λr2=>
  some (r2,true))) (λj2=>
  if c1 then j2 (c1||true) else Chk (inB 0 ((Lk p_s BK).1).size) (
  j2 (c1||((decide ((LD ((Lk p_s BK).1) 0)=48)) && ((!decide (((Lk p_s BK).1)=k_0))||((Lk p_s BK).2))))))) (λj1=>
  if((decide (((Lk p_s BK).1)=Ff))||(decide (p_most<(((Lk p_s BK).1).size:Int)))) then j1 (((decide (((Lk p_s BK).1)=Ff))||(decide (p_most<(((Lk p_s BK).1).size:Int))))||true) else Option.bind (Wg ((Lk p_s BK).1) VA) (λr1=>
  j1 (((decide (((Lk p_s BK).1)=Ff))||(decide (p_most<(((Lk p_s BK).1).size:Int))))||(!decide (r1=Ff)))))
def Rd(j1:(List Int)->Option (List Int)):Nat->(List Int)->Int->Int->Option (List Int)
  |0,_,_,_=>none
  |m1+1,x1,x2,x3=>if decide (x2<x3) then
  Chk (inB x3 x1.length) (
  Chk (inB x2 x1.length) (
  Chk (inB x2 x1.length) (
  Chk (inB x3 (x1.set x2.toNat (nth x1 x3)).length) (
  Rd j1 m1 ((x1.set x2.toNat (nth x1 x3)).set x3.toNat (nth x1 x2)) (W (x2+1)) (W (x3-1))))))
  else
  j1 x1
def Pd(p_s:List Int):Option (List Int):=
  Fq (fun(x1:List Int)=>
  some x1) (λj1=>
  Rd j1 (((W ((p_s.length:Int)-1))-0).toNat+2) p_s 0 (W ((p_s.length:Int)-1)))
  def WQ (l:List An) (at_:Int) (i:Nat) (m:List (Fu×Bool)):Bool:=decide (at_<(nth l (i:Int)).At)||Gm m (Fz (nth l (i:Int))) false
def Ny(l:List An)(at_:Int):List Nat->List (Fu×Bool)->List Int->Option (List Int)
  |[],_,x=>Pd x
  |i::is,m,x=>if WQ l at_ i m then Ny l at_ is m x else
    Chk (Ja x.length) (Ny l at_ is (if decide ((nth l (i:Int)).Kind=4) then Iv m (Fu.mk ((nth l (i:Int)).Of) ((nth l (i:Int)).Other)) true else m) (x++[(i:Int)]))
def AZ(l:List An)(at_:Int):Option (List Int):=Ny l at_ (FW l.length) [] []
def Vr(p_l:List An)(j1:(List An)->Option (Option Jr)):List Int->Nat->(List An)->Option (Option Jr)
  |[],_,x1=>j1 x1
  |y1::ys1,i1,x1=>Chk (inB y1 p_l.length) (
  Chk (Ja x1.length) (
  Vr p_l j1 ys1 (i1+1) (x1++[(nth p_l y1)])))
def EX(p_p:Ge)(p_l:List An)(p_at:Int):Option (Option Jr):=
  Option.bind (AZ p_l p_at) (λr1=>
  Fq (fun(x1:List An)=>
  some (some (Jr.mk p_p x1))) (λj1=>
  Vr p_l j1 r1 0 ([]:List An)))
def Yd(j1:Option ((Option Jr)×Int)):List Int->Nat->Option ((Option Jr)×Int)
  |[],_=>j1
  |y1::ys1,i1=>if !(Hf y1) then
  some (none,1)
  else
  Yd j1 ys1 (i1+1)
def Zg(p_p:Ge)(p_l:List An)(p_at:List Int):Option ((Option Jr)×Int):=
  Option.bind (Sr p_p) (λr1=>
  if !decide (r1=0) then
  some (none,r1)
  else
  Option.bind (Rj p_l) (λr2=>
  if !decide (r2=0) then
  some (none,r2)
  else
  Fq (Chk (inB (W ((p_at.length:Int)-1)) p_at.length) (
  Option.bind (EX p_p p_l (nth p_at (W ((p_at.length:Int)-1)))) (λr3=>
  some (r3,0)))) (λj1=>
  Yd j1 p_at 0)))
def DP(p_r:Fp)(p_a1:ByteArray):Bool:=
  decide (p_r.Key=p_a1)
def Hh(p_f_0:ByteArray)(j1:Int):List Fp->Nat->Int
  |[],_=>j1
  |y1::ys1,i1=>if(DP y1 p_f_0) then
  (i1:Int)
  else
  Hh p_f_0 j1 ys1 (i1+1)
def Gt(p_s:List Fp)(p_f_0:ByteArray):Int:=
  Fq ((-1)) (λj1=>
  Hh p_f_0 j1 p_s 0)
def Zh(p_a:An)(p_b:An):Int:=
  (Ic p_a.Who p_b.Who)
open Classical in
def Ki(p_x:List An):Option (List An):=if HC Zh p_x/\p_x.length<4611686018427387904 then some (Nc Zh p_x) else none
def Tz(p_race:ByteArray)(j1:(List (ByteArray×An))->Option (List An)):List An->Nat->(List (ByteArray×An))->Option (List An)
  |[],_,x1=>j1 x1
  |y1::ys1,i1,x1=>Fq (fun(x2:List (ByteArray×An))=>
  Tz p_race j1 ys1 (i1+1) x2) (λj2=>
  if !decide (y1.Race=p_race) then
  j2 x1
  else
  Fq (fun(x3:List (ByteArray×An))=>
  j2 x3) (λj3=>
  Fq (fun(x4:List (ByteArray×An))=>
  j3 x4) (λj4=>
  if decide (y1.Kind=1) then
  j4 (Iv x1 y1.Who y1)
  else
  Fq (fun(x5:List (ByteArray×An))=>
  j4 x5) (λj5=>
  if decide (y1.Kind=2) then
  j5 (KZ x1 y1.Who)
  else
  j5 x1))))
def Zi(j6:(List An)->Option (List An)):List (ByteArray×An)->(List An)->Option (List An)
  |[],x6=>j6 x6
  |y2::ys2,x6=>Option.bind (α:=(List An)) (
  Chk (Ja x6.length) (
  some (x6++[y2.2]))) (λs=>Zi j6 ys2 s)
def Sl(_:Ge)(p_s_deeds:List An)(p_race:ByteArray):Option (List An):=
  Fq (fun(x1:List (ByteArray×An))=>
  Fq (fun(x6:List An)=>
  Option.bind (Ki x6) (λr1=>
  some r1)) (λj6=>
  AllP x1 (λp=>Zi j6 p ([]:List An)))) (λj1=>
  Tz p_race j1 p_s_deeds 0 ([]:List (ByteArray×An)))
def BU(p_s_p:Ge)(p_s_deeds:List An)(p_key:ByteArray):Option (Fp×Int):=
  if decide ((Gt p_s_p.Races p_key)<0) then
  some ((Fp.mk Ff 0 0 0 0 0 0 0),8)
  else
  Option.bind (Sl p_s_p p_s_deeds p_key) (λr1=>
  if decide (300<(r1.length:Int)) then
  some ((Fp.mk Ff 0 0 0 0 0 0 0),2)
  else
  Chk (inB (Gt p_s_p.Races p_key) p_s_p.Races.length) (
  some ((nth p_s_p.Races (Gt p_s_p.Races p_key)),0)))
def Ye(p_p:Ge)(p_l:List An)(p_race:ByteArray)(p_at:Int):Option ((Option Jr)×Fp×Int):=
  Option.bind (Zg p_p p_l ([p_at]:List Int)) (λr1=>
  if !decide (r1.2=0) then
  some (none,(Fp.mk Ff 0 0 0 0 0 0 0),r1.2)
  else
  Option.bind (r1.1) (λr2=>
  Option.bind (BU r2.p_ r2.deeds_ p_race) (λr3=>
  some (some r2,r3.1,r3.2))))
def BA(p_race:ByteArray)(j1:(List (ByteArray×An))->(List (ByteArray×An))):List An->Nat->(List (ByteArray×An))->(List (ByteArray×An))
  |[],_,x1=>j1 x1
  |y1::ys1,i1,x1=>Fq (fun(x2:List (ByteArray×An))=>
  BA p_race j1 ys1 (i1+1) x2) (λj2=>
  Fq (fun(x3:List (ByteArray×An))=>
  j2 x3) (λj3=>
  if((decide (y1.Race=p_race)) && (decide (y1.Kind=3))) then
  j3 (Iv x1 y1.Who y1)
  else
  j3 x1))
def AC(_:Ge)(p_s_deeds:List An)(p_race:ByteArray):(List (ByteArray×An)):=
  Fq (fun(x1:List (ByteArray×An))=>
  x1) (λj1=>
  BA p_race j1 p_s_deeds 0 ([]:List (ByteArray×An)))
def Ua(j1:(List (ByteArray×Bool))->Bool->Option Int):List Fi->Nat->(List (ByteArray×Bool))->Bool->Option Int
  |[],_,x1,x2=>j1 x1 x2
  |y1::ys1,i1,x1,x2=>Option.bind (Gh y1.Who) (λr1=>
  if !r1 then
  some 5
  else
  if !(Fv y1.Time 0 360000) then
  some 1
  else
  Ua j1 ys1 (i1+1) (Iv x1 y1.Who true) (x2||(Gm x1 y1.Who false)))
def Xy(p_l:List Fi):Option Int:=
  if decide (300<(p_l.length:Int)) then
  some 2
  else
  Fq (fun(_:List (ByteArray×Bool)) (x2:Bool)=>
  if x2 then
  some 6
  else
  some 0) (λj1=>
  Ua j1 p_l 0 ([]:List (ByteArray×Bool)) false)
def Qb(p_v:List Je)(j1:Option Int):List Je->Nat->Option Int
  |[],_=>j1
  |y1::ys1,i1=>Option.bind (Gh y1.Who) (λr2=>
  if !r2 then
  some 5
  else
  if !(Fv y1.Fault 0 8) then
  some 4
  else
  Fq (fun(c1:Bool)=>
  if c1 then
  some 7
  else
  Qb p_v j1 ys1 (i1+1)) (λj2=>
  if(decide (0<(i1:Int))) then Chk (inB (W ((i1:Int)-1)) p_v.length) (
  j2 ((decide (0<(i1:Int))) && (XL y1.Who ((nth p_v (W ((i1:Int)-1))).Who)||decide (y1.Who=((nth p_v (W ((i1:Int)-1))).Who))))) else j2 ((decide (0<(i1:Int))) && true)))
def Vx(p_v:List Je):Option Int:=
  if decide (300<(p_v.length:Int)) then
  some 2
  else
  Fq (some 0) (λj1=>
  Qb p_v j1 p_v 0)
def DQ(p_a:Fj)(p_b:Fj)(p_a2:Int):Option Int:=
  Chk (!decide (p_a2=0)) (
  Chk (!decide (p_a2=0)) (
  some (W ((W (Int.tdiv p_a.Time p_a2))-(W (Int.tdiv p_b.Time p_a2))))))
def Gn(p_a:Int)(p_cmp_0:Int)(j2:(List Fj)->Option (List Fj)):Nat->(List Fj)->Int->Option (List Fj)
  |0,_,_=>none
  |m2+1,x3,x4=>Fq (fun(x5:Bool)=>
  if x5 then
  Chk (inB (W (x4-1)) x3.length) (
  Chk (inB x4 x3.length) (
  Chk (inB x4 x3.length) (
  Chk (inB (W (x4-1)) (x3.set x4.toNat (nth x3 (W (x4-1)))).length) (
  Gn p_a p_cmp_0 j2 m2 ((x3.set x4.toNat (nth x3 (W (x4-1)))).set ((W (x4-1)).toNat) (nth x3 x4)) (W (x4-1))))))
  else
  j2 x3) (λj3=>
  if decide (p_a<x4) then
  Chk (inB x4 x3.length) (
  Chk (inB (W (x4-1)) x3.length) (
  Option.bind (DQ (nth x3 x4) (nth x3 (W (x4-1))) p_cmp_0) (λr1=>
  j3 (decide (r1<0)))))
  else
  j3 false)
def Hy(p_b:Int)(p_a:Int)(p_cmp_0:Int)(j1:(List Fj)->Option (List Fj)):Nat->(List Fj)->Int->Option (List Fj)
  |0,_,_=>none
  |m1+1,x1,x2=>if decide (x2<p_b) then
  Fq (fun(x3:List Fj)=>
  Hy p_b p_a p_cmp_0 j1 m1 x3 (W (x2+1))) (λj2=>
  Gn p_a p_cmp_0 j2 ((x2-p_a).toNat+2) x1 x2)
  else
  j1 x1
def Hj(p_data:List Fj)(p_a:Int)(p_b:Int)(p_cmp_0:Int):Option (List Fj):=
  Fq (fun(x1:List Fj)=>
  some x1) (λj1=>
  Hy p_b p_a p_cmp_0 j1 ((p_b-(W (p_a+1))).toNat+2) p_data (W (p_a+1)))
def Jf(p_n:Int)(p_cmp_0:Int)(j1:(List Fj)->Int->Option (List Fj)):Nat->(List Fj)->Int->Int->Option (List Fj)
  |0,_,_,_=>none
  |m1+1,x1,x2,x3=>if decide (x3<=p_n) then
  Option.bind (Hj x1 x2 x3 p_cmp_0) (λr1=>
  Jf p_n p_cmp_0 j1 m1 r1 x3 (W (x3+20)))
  else
  j1 x1 x2
def Mx(p_n:Int)(j3:Int->Option (List Fj)):Nat->Int->Int->Option (List Fj)
  |0,_,_=>none
  |_+1,x5,x6=>if decide (x6<=p_n) then
  none
  else
  j3 x5
def Jg(p_n:Int)(j2:Option (List Fj)):Nat->Int->Option (List Fj)
  |0,_=>none
  |m2+1,x4=>if decide (x4<p_n) then
  Fq (fun(x5:Int)=>
  if decide ((W (x5+x4))<p_n) then
  none
  else
  Jg p_n j2 m2 (W (x4*2))) (λj3=>
  Mx p_n j3 ((p_n-(W (2*x4))).toNat+2) 0 (W (2*x4)))
  else
  j2
def Ll(p_data:List Fj)(p_n:Int)(p_cmp_0:Int):Option (List Fj):=
  Fq (fun(x1:List Fj) (x2:Int)=>
  Option.bind (Hj x1 x2 p_n p_cmp_0) (λr2=>
  Fq (some r2) (λj2=>
  Jg p_n j2 ((p_n-20).toNat+2) 20))) (λj1=>
  Jf p_n p_cmp_0 j1 ((p_n-20).toNat+2) p_data 0 20)
def Jl(p_x:List Fj)(p_cmp_0:Int):Option (List Fj):=
  Option.bind (Ll p_x (p_x.length:Int) p_cmp_0) (λr1=>
  some r1)
def BB(j1:(List (ByteArray×Int))->Option ((List Fj)×Int)):List Je->Nat->(List (ByteArray×Int))->Option ((List Fj)×Int)
  |[],_,x1=>j1 x1
  |y1::ys1,i1,x1=>BB j1 ys1 (i1+1) (Iv x1 y1.Who y1.Fault)
def Ys(x1:List (ByteArray×Int))(j2:(List Fj)->(List Fj)->Option ((List Fj)×Int)):List Fi->Nat->(List Fj)->(List Fj)->Option ((List Fj)×Int)
  |[],_,x2,x3=>j2 x2 x3
  |y2::ys2,i2,x2,x3=>Fq (fun(x4:List Fj) (x5:List Fj)=>
  Ys x1 j2 ys2 (i2+1) x4 x5) (λj3=>
  Fq (fun(x6:List Fj) (x7:List Fj)=>
  j3 x6 x7) (λj4=>
  if((decide ((Gm x1 y2.Who 0)=0)) && (decide (0<y2.Time))) then
  Chk (Ja x3.length) (
  j4 x2 (x3++[(Fj.mk y2.Who 0 y2.Time (Gm x1 y2.Who 0))]))
  else
  Chk (Ja x2.length) (
  j4 (x2++[(Fj.mk y2.Who 0 y2.Time (Gm x1 y2.Who 0))]) x3)))
def Yt(p_by:Int)(j5:(List Fj)->Option ((List Fj)×Int)):List Fj->Nat->(List Fj)->Option ((List Fj)×Int)
  |[],_,x8=>j5 x8
  |_::ys3,i3,x8=>Fq (fun(x9:List Fj)=>
  Yt p_by j5 ys3 (i3+1) x9) (λj6=>
  Fq (fun(c1:Bool)=>
  Fq (fun(x10:List Fj)=>
  j6 x10) (λj8=>
  if c1 then
  Chk (inB (W ((i3:Int)-1)) x8.length) (
  Chk (inB (i3:Int) x8.length) (
  j8 (x8.set ((i3:Int).toNat) (Fj.mk ((nth x8 (i3:Int)).Who) ((nth x8 (W ((i3:Int)-1))).Rank) ((nth x8 (i3:Int)).Time) ((nth x8 (i3:Int)).Fault)))))
  else
  Chk (inB (i3:Int) x8.length) (
  j8 (x8.set ((i3:Int).toNat) (Fj.mk ((nth x8 (i3:Int)).Who) (W ((i3:Int)+1)) ((nth x8 (i3:Int)).Time) ((nth x8 (i3:Int)).Fault)))))) (λj7=>
  if(decide (0<(i3:Int))) then Chk (inB (i3:Int) x8.length) (
  Chk (!decide (p_by=0)) (
  Chk (inB (W ((i3:Int)-1)) x8.length) (
  Chk (!decide (p_by=0)) (
  j7 ((decide (0<(i3:Int))) && (decide ((W (Int.tdiv ((nth x8 (i3:Int)).Time) p_by))=(W (Int.tdiv ((nth x8 (W ((i3:Int)-1))).Time) p_by))))))))) else j7 ((decide (0<(i3:Int))) && true)))
def OM(p_l:List Fi)(p_v:List Je)(p_by:Int):Option ((List Fj)×Int):=
  Option.bind (Xy p_l) (λr1=>
  if !decide (r1=0) then
  some (([]:List Fj),r1)
  else
  Option.bind (Vx p_v) (λr2=>
  if !decide (r2=0) then
  some (([]:List Fj),r2)
  else
  Fq (fun(x1:List (ByteArray×Int))=>
  Fq (fun(x2:List Fj) (x3:List Fj)=>
  Option.bind (Jl x3 p_by) (λr4=>
  Fq (fun(x8:List Fj)=>
  Chk (decide (x8.length+x2.length<1073741824)) (
  some ((x8++x2),0))) (λj5=>
  Yt p_by j5 r4 0 r4))) (λj2=>
  Ys x1 j2 p_l 0 ([]:List Fj) ([]:List Fj))) (λj1=>
  BB j1 p_v 0 ([]:List (ByteArray×Int)))))
def GR(p_l:List Fi)(p_v:List Je):Option ((List Fj)×Int):=
  Option.bind (OM p_l p_v 1) (λr1=>
  some (r1.1,r1.2))
def Vs(p_s_p:Ge)(p_s_deeds:List An)(p_race:ByteArray)(j1:(List Je)->(List Fi)->(List (ByteArray×ByteArray))->Option ((List Fj)×(List (ByteArray×ByteArray))×Int)):List An->Nat->(List Je)->(List Fi)->(List (ByteArray×ByteArray))->Option ((List Fj)×(List (ByteArray×ByteArray))×Int)
  |[],_,x1,x2,x3=>j1 x1 x2 x3
  |y1::ys1,i1,x1,x2,x3=>Fq (fun(x4:List Je) (x5:List Fi) (x6:List (ByteArray×ByteArray))=>
  Vs p_s_p p_s_deeds p_race j1 ys1 (i1+1) x4 x5 x6) (λj2=>
  if !((Tw (AC p_s_p p_s_deeds p_race) y1.Who).isSome) then
  j2 x1 x2 x3
  else
  Chk (Ja x2.length) (
  Fq (fun(x7:List Je)=>
  j2 x7 (x2++[(Fi.mk y1.Who ((Gm (AC p_s_p p_s_deeds p_race) y1.Who (An.mk Ff 0 0 0 Ff Ff Ff 0 0 Ff 0)).Time))]) (Iv x3 y1.Who y1.Club)) (λj3=>
  if decide (0<((Gm (AC p_s_p p_s_deeds p_race) y1.Who (An.mk Ff 0 0 0 Ff Ff Ff 0 0 Ff 0)).Fault)) then
  Chk (Ja x1.length) (
  j3 (x1++[(Je.mk y1.Who ((Gm (AC p_s_p p_s_deeds p_race) y1.Who (An.mk Ff 0 0 0 Ff Ff Ff 0 0 Ff 0)).Fault) ([]:List ByteArray))]))
  else
  j3 x1)))
def EY(p_s_p:Ge)(p_s_deeds:List An)(p_race:ByteArray):Option ((List Fj)×(List (ByteArray×ByteArray))×Int):=
  Option.bind (Sl p_s_p p_s_deeds p_race) (λr1=>
  Fq (fun(x1:List Je) (x2:List Fi) (x3:List (ByteArray×ByteArray))=>
  Option.bind (GR x2 x1) (λr2=>
  some (r2.1,x3,r2.2))) (λj1=>
  Vs p_s_p p_s_deeds p_race j1 r1 0 ([]:List Je) ([]:List Fi) ([]:List (ByteArray×ByteArray))))
def Zj(p_a:Fd)(p_b:Fd):Int:=
  if !decide ((decide (p_a.Rank=0))=(decide (p_b.Rank=0))) then
  W (p_b.Rank-p_a.Rank)
  else
  if !decide (p_a.Rank=p_b.Rank) then
  W (p_a.Rank-p_b.Rank)
  else
  (Ic p_a.Who p_b.Who)
def Gl(p_a:Int)(j2:(List Fd)->Option (List Fd)):Nat->(List Fd)->Int->Option (List Fd)
  |0,_,_=>none
  |m2+1,x3,x4=>Fq (fun(x5:Bool)=>
  if x5 then
  Chk (inB (W (x4-1)) x3.length) (
  Chk (inB x4 x3.length) (
  Chk (inB x4 x3.length) (
  Chk (inB (W (x4-1)) (x3.set x4.toNat (nth x3 (W (x4-1)))).length) (
  Gl p_a j2 m2 ((x3.set x4.toNat (nth x3 (W (x4-1)))).set ((W (x4-1)).toNat) (nth x3 x4)) (W (x4-1))))))
  else
  j2 x3) (λj3=>
  if decide (p_a<x4) then
  Chk (inB x4 x3.length) (
  Chk (inB (W (x4-1)) x3.length) (
  j3 (decide ((Zj (nth x3 x4) (nth x3 (W (x4-1))))<0))))
  else
  j3 false)
def Hq(p_b:Int)(p_a:Int)(j1:(List Fd)->Option (List Fd)):Nat->(List Fd)->Int->Option (List Fd)
  |0,_,_=>none
  |m1+1,x1,x2=>if decide (x2<p_b) then
  Fq (fun(x3:List Fd)=>
  Hq p_b p_a j1 m1 x3 (W (x2+1))) (λj2=>
  Gl p_a j2 ((x2-p_a).toNat+2) x1 x2)
  else
  j1 x1
def Hb(p_data:List Fd)(p_a:Int)(p_b:Int):Option (List Fd):=
  Fq (fun(x1:List Fd)=>
  some x1) (λj1=>
  Hq p_b p_a j1 ((p_b-(W (p_a+1))).toNat+2) p_data (W (p_a+1)))
def Ir(p_n:Int)(j1:(List Fd)->Int->Option (List Fd)):Nat->(List Fd)->Int->Int->Option (List Fd)
  |0,_,_,_=>none
  |m1+1,x1,x2,x3=>if decide (x3<=p_n) then
  Option.bind (Hb x1 x2 x3) (λr1=>
  Ir p_n j1 m1 r1 x3 (W (x3+20)))
  else
  j1 x1 x2
def Mh(p_n:Int)(j3:Int->Option (List Fd)):Nat->Int->Int->Option (List Fd)
  |0,_,_=>none
  |_+1,x5,x6=>if decide (x6<=p_n) then
  none
  else
  j3 x5
def It(p_n:Int)(j2:Option (List Fd)):Nat->Int->Option (List Fd)
  |0,_=>none
  |m2+1,x4=>if decide (x4<p_n) then
  Fq (fun(x5:Int)=>
  if decide ((W (x5+x4))<p_n) then
  none
  else
  It p_n j2 m2 (W (x4*2))) (λj3=>
  Mh p_n j3 ((p_n-(W (2*x4))).toNat+2) 0 (W (2*x4)))
  else
  j2
def Kj(p_data:List Fd)(p_n:Int):Option (List Fd):=
  Fq (fun(x1:List Fd) (x2:Int)=>
  Option.bind (Hb x1 x2 p_n) (λr2=>
  Fq (some r2) (λj2=>
  It p_n j2 ((p_n-20).toNat+2) 20))) (λj1=>
  Ir p_n j1 ((p_n-20).toNat+2) p_data 0 20)
def Gz(p_x:List Fd):Option (List Fd):=
  Option.bind (Kj p_x (p_x.length:Int)) (λr1=>
  some r1)
def Vy(p_a:Int)(p_b:Int):Int:=
  Fq (fun(x1:Int)=>
  Fq (fun(x2:Int)=>
  W (x1-x2)) (λj2=>
  if decide (p_b=0) then
  j2 301
  else
  j2 p_b)) (λj1=>
  if decide (p_a=0) then
  j1 301
  else
  j1 p_a)
def Xb(p_a:Fd)(p_b:Fd):Int:=
  (Ss [(Ic p_a.Race p_b.Race),(Vy p_a.Rank p_b.Rank),(Ic p_a.Who p_b.Who)])
def Xz(p_l:List Fd)(x2:Int)(j2:Int->Option (List (List Fd))):Nat->Int->Option (List (List Fd))
  |0,_=>none
  |m2+1,x3=>Fq (fun(c1:Bool)=>
  if c1 then
  Xz p_l x2 j2 m2 (W (x3+1))
  else
  j2 x3) (λj3=>
  if(decide (x3<(p_l.length:Int))) then Chk (inB x3 p_l.length) (
  Chk (inB x2 p_l.length) (
  j3 ((decide (x3<(p_l.length:Int))) && (decide (((nth p_l x3).Race)=((nth p_l x2).Race)))))) else j3 ((decide (x3<(p_l.length:Int))) && true))
def Ti(p_l:List Fd)(j1:(List (List Fd))->Option (List (List Fd))):Nat->(List (List Fd))->Int->Option (List (List Fd))
  |0,_,_=>none
  |m1+1,x1,x2=>if decide (x2<(p_l.length:Int)) then
  Fq (fun(x3:Int)=>
  Chk (Tv x2 x3 p_l.length) (
  Chk (Ja x1.length) (
  Ti p_l j1 m1 (x1++[cut p_l x2 x3]) x3))) (λj2=>
  Xz p_l x2 j2 (((p_l.length:Int)-(W (x2+1))).toNat+2) (W (x2+1)))
  else
  j1 x1
def Wh(p_l:List Fd):Option (List (List Fd)):=
  Fq (fun(x1:List (List Fd))=>
  some x1) (λj1=>
  Ti p_l j1 (((p_l.length:Int)-0).toNat+2) ([]:List (List Fd)) 0)
def AD(p_x:Fd)(p_a1:List Fd):Option Bool:=
  Chk (inB 0 p_a1.length) (
  some (!decide (p_x.Relay=((nth p_a1 0).Relay))))
def Hw(p_f_0:List Fd)(j1:Option Int):List Fd->Nat->Option Int
  |[],_=>j1
  |y1::ys1,i1=>Option.bind (AD y1 p_f_0) (λr1=>
  if r1 then
  some (i1:Int)
  else
  Hw p_f_0 j1 ys1 (i1+1))
def Ky(p_s:List Fd)(p_f_0:List Fd):Option Int:=
  Fq (some (-1)) (λj1=>
  Hw p_f_0 j1 p_s 0)
def Kg(p_s:List Fd)(p_f_0:List Fd):Option Bool:=
  Option.bind (Ky p_s p_f_0) (λr1=>
  some (decide (0<=r1)))
def Pe(j1:(List (Fw×Bool))->Option Int):List Fd->Nat->(List (Fw×Bool))->Option Int
  |[],_,x1=>j1 x1
  |y1::ys1,i1,x1=>if Gm x1 (Fw.mk y1.Race y1.Who) false then
  some 6
  else
  Pe j1 ys1 (i1+1) (Iv x1 (Fw.mk y1.Race y1.Who) true)
def Rs(j2:Option Int):List (List Fd)->Nat->Option Int
  |[],_=>j2
  |y2::ys2,i2=>Option.bind (Kg y2 y2) (λr3=>
  if r3 then
  some 3
  else
  Rs j2 ys2 (i2+1))
def Rt(y3:(List Fd))(j4:Option Int):List Fd->Nat->Option Int
  |[],_=>j4
  |y4::ys4,i4=>Fq (fun(c1:Bool)=>
  if c1 then
  some 16
  else
  Rt y3 j4 ys4 (i4+1)) (λj5=>
  if((decide (0<y4.Rank)) && (!decide (y4.Rank=(W ((i4:Int)+1))))) then Fq (fun(c2:Bool)=>
  j5 (((decide (0<y4.Rank)) && (!decide (y4.Rank=(W ((i4:Int)+1))))) && c2)) (λj6=>
  if(decide ((i4:Int)=0)) then j6 ((decide ((i4:Int)=0))||true) else Chk (inB (W ((i4:Int)-1)) y3.length) (
  j6 ((decide ((i4:Int)=0))||(!decide (y4.Rank=((nth y3 (W ((i4:Int)-1))).Rank)))))) else j5 (((decide (0<y4.Rank)) && (!decide (y4.Rank=(W ((i4:Int)+1))))) && true))
def Pf(j3:Option Int):List (List Fd)->Nat->Option Int
  |[],_=>j3
  |y3::ys3,i3=>Fq (Pf j3 ys3 (i3+1)) (λj4=>
  Rt y3 j4 y3 0)
def Kt(y5:(List Fd))(j8:Option Int):Nat->Int->Option Int
  |0,_=>none
  |m1+1,x2=>if decide (x2<(y5.length:Int)) then
  Chk (inB x2 y5.length) (
  Fq (fun(c3:Bool)=>
  if c3 then
  some 12
  else
  Kt y5 j8 m1 (W (x2+1))) (λj9=>
  if(decide (0<((nth y5 x2).Rank))) then Chk (inB x2 y5.length) (
  Chk (inB (W (x2-10)) y5.length) (
  j9 ((decide (0<((nth y5 x2).Rank))) && (decide (((nth y5 x2).Rank)=((nth y5 (W (x2-10))).Rank)))))) else j9 ((decide (0<((nth y5 x2).Rank))) && true)))
  else
  j8
def Pg(j7:Option Int):List (List Fd)->Nat->Option Int
  |[],_=>j7
  |y5::ys5,i5=>Fq (Pg j7 ys5 (i5+1)) (λj8=>
  Kt y5 j8 (((y5.length:Int)-10).toNat+2) 10)
def DX(p_l:List Fd):Option Int:=
  Fq (fun(_:List (Fw×Bool))=>
  Option.bind (Wh p_l) (λr1=>
  Fq (Fq (Fq (some 0) (λj7=>
  Pg j7 r1 0)) (λj3=>
  Pf j3 r1 0)) (λj2=>
  Rs j2 r1 0))) (λj1=>
  Pe j1 p_l 0 ([]:List (Fw×Bool)))
def Hc(p_l:List Fd)(j1:Option Int):List Fd->Nat->Option Int
  |[],_=>j1
  |y1::ys1,i1=>Option.bind (Gh y1.Race) (λr1=>
  Fq (fun(c1:Bool)=>
  Fq (fun(c2:Bool)=>
  if c2 then
  some 5
  else
  if !(Fv y1.Rank 0 300) then
  some 1
  else
  Fq (fun(x1:Bool)=>
  if x1 then
  some 7
  else
  Hc p_l j1 ys1 (i1+1)) (λj5=>
  if decide (0<(i1:Int)) then
  Chk (inB (W ((i1:Int)-1)) p_l.length) (
  j5 (decide (0<=(Xb (nth p_l (W ((i1:Int)-1))) y1))))
  else
  j5 false)) (λj3=>
  if c1 then j3 (c1||true) else Fq (fun(c3:Bool)=>
  j3 (c1||c3)) (λj4=>
  if(!decide (y1.Club=Ff)) then Option.bind (Gh y1.Club) (λr3=>
  j4 ((!decide (y1.Club=Ff)) && (!r3))) else j4 ((!decide (y1.Club=Ff)) && true)))) (λj2=>
  if(!r1) then j2 ((!r1)||true) else Option.bind (Gh y1.Who) (λr2=>
  j2 ((!r1)||(!r2)))))
def Xc(p_l:List Fd):Option Int:=
  if decide (2000<(p_l.length:Int)) then
  some 2
  else
  Fq (Option.bind (DX p_l) (λr4=>
  some r4)) (λj1=>
  Hc p_l j1 p_l 0)
def Ws(p_t:Il)(p_l:List Fd):Option Int:=
  Option.bind (Sq p_t) (λr1=>
  if !decide (r1=0) then
  some r1
  else
  Option.bind (Xc p_l) (λr2=>
  some r2))
def BV:Fh:=
  (Fh.mk 0 1)
def Vh(j1:Int->Option Fh):Nat->Int->Int->Option Fh
  |0,_,_=>none
  |m1+1,x1,x2=>if decide (0<x1) then
  Chk (!decide (x1=0)) (
  Vh j1 m1 (Int.tmod x2 x1) x1)
  else
  j1 x2
def Nr(p_a:Int)(p_b:Int):Option Fh:=
  Fq (fun(x2:Int)=>
  Chk (!decide (x2=0)) (
  Chk (!decide (x2=0)) (
  some (Fh.mk (W (Int.tdiv p_a x2)) (W (Int.tdiv p_b x2)))))) (λj1=>
  Vh j1 ((p_a-0).toNat+2) p_a p_b)
def Su(p_t:Il)(j1:(List (ByteArray×Int))->(List Int)->(List Fl)->Option (List Fl)):List Fd->Nat->(List (ByteArray×Int))->(List Int)->(List Fl)->Option (List Fl)
  |[],_,x1,x2,x3=>j1 x1 x2 x3
  |y1::ys1,i1,x1,x2,x3=>Fq (fun(x4:List (ByteArray×Int)) (x5:List Int) (x6:List Fl)=>
  Su p_t j1 ys1 (i1+1) x4 x5 x6) (λj2=>
  if((decide (y1.Rank=0))||(decide (y1.Club=Ff))) then
  j2 x1 x2 x3
  else
  Fq (fun(x7:List Int)=>
  Chk (Ja x3.length) (
  j2 (Iv x1 y1.Club (W ((Gm x1 y1.Club 0)+1))) x7 (x3++[(Fl.mk y1 BV)]))) (λj3=>
  if((decide (p_t.Most=0))||(decide ((Gm (Iv x1 y1.Club (W ((Gm x1 y1.Club 0)+1))) y1.Club 0)<=p_t.Most))) then
  Chk (Ja x2.length) (
  j3 (x2++[(x3.length:Int)]))
  else
  j3 x2))
def Zk(p_t:Il)(x2:List Int)(x8:List Fl)(x9:Int)(j5:Int->Int->Option (List Fl)):Nat->Int->Int->Option (List Fl)
  |0,_,_=>none
  |m2+1,x10,x11=>Fq (fun(c1:Bool)=>
  if c1 then
  Fq (fun(x12:Int)=>
  Zk p_t x2 x8 x9 j5 m2 (W (x10+1)) x12) (λj7=>
  Fq (fun(x13:Int)=>
  j7 x13) (λj8=>
  if decide (x10<(p_t.Points.length:Int)) then
  Chk (inB x10 p_t.Points.length) (
  j8 (W (x11+(nth p_t.Points x10))))
  else
  j8 x11))
  else
  j5 x10 x11) (λj6=>
  if(decide (x10<(x2.length:Int))) then Chk (inB x10 x2.length) (
  Chk (inB (nth x2 x10) x8.length) (
  Chk (inB x9 x2.length) (
  Chk (inB (nth x2 x9) x8.length) (
  j6 ((decide (x10<(x2.length:Int))) && (decide ((((nth x8 (nth x2 x10)).x_).Rank)=(((nth x8 (nth x2 x9)).x_).Rank)))))))) else j6 ((decide (x10<(x2.length:Int))) && true))
def Sv(x10:Int)(x9:Int)(x14:Int)(x2:List Int)(j10:(List Fl)->Option (List Fl)):Nat->(List Fl)->Int->Option (List Fl)
  |0,_,_=>none
  |m3+1,x15,x16=>if decide (x16<((x10.toNat-x9.toNat:Nat):Int)) then
  Chk (inB x16 (x10.toNat-x9.toNat)) (
  Option.bind (Nr x14 (W (x10-x9))) (λr1=>
  Chk (inB (nth (cut x2 x9 x10) x16) x15.length) (
  Sv x10 x9 x14 x2 j10 m3 (x15.set ((nth (cut x2 x9 x10) x16).toNat) (Fl.mk ((nth x15 (nth (cut x2 x9 x10) x16)).x_) r1)) (W (x16+1)))))
  else
  j10 x15
def Rg(x2:List Int)(p_l:List Fd)(p_t:Il)(j4:(List Fl)->Option (List Fl)):Nat->(List Fl)->Int->Option (List Fl)
  |0,_,_=>none
  |m1+1,x8,x9=>if decide (x9<(x2.length:Int)) then
  Fq (fun(x10:Int) (x11:Int)=>
  Chk (inB 0 p_l.length) (
  Fq (fun(x14:Int)=>
  Chk (Tv x9 x10 x2.length) (
  Fq (fun(x15:List Fl)=>
  Rg x2 p_l p_t j4 m1 x15 x10) (λj10=>
  Sv x10 x9 x14 x2 j10 ((((x10.toNat-x9.toNat:Nat):Int)-0).toNat+2) x8 0))) (λj9=>
  if(nth p_l 0).Relay then
  j9 (W (x11*p_t.Relay))
  else
  j9 x11))) (λj5=>
  Zk p_t x2 x8 x9 j5 (((x2.length:Int)-x9).toNat+2) x9 0)
  else
  j4 x8
def BW(p_t:Il)(p_l:List Fd):Option (List Fl):=
  Fq (fun(_:List (ByteArray×Int)) (x2:List Int) (x3:List Fl)=>
  Fq (fun(x8:List Fl)=>
  some x8) (λj4=>
  Rg x2 p_l p_t j4 (((x2.length:Int)-0).toNat+2) x3 0)) (λj1=>
  Su p_t j1 p_l 0 ([]:List (ByteArray×Int)) ([]:List Int) ([]:List Fl))
def Zl(p_t:Il)(j1:(List Fl)->Option (List Fl)):List (List Fd)->Nat->(List Fl)->Option (List Fl)
  |[],_,x1=>j1 x1
  |y1::ys1,i1,x1=>Option.bind (BW p_t y1) (λr3=>
  Chk (decide (x1.length+r3.length<1073741824)) (
  Zl p_t j1 ys1 (i1+1) (x1++r3)))
def HH(p_t:Il)(p_l:List Fd):Option (List Fl):=
  Option.bind (Wh p_l) (λr1=>
  Fq (fun(x1:List Fl)=>
  some x1) (λj1=>
  Zl p_t j1 r1 0 ([]:List Fl)))
def Vt(j1:(List Fx)->Option ((List Fx)×Int)):List Fl->Nat->(List Fx)->Option ((List Fx)×Int)
  |[],_,x1=>j1 x1
  |y1::ys1,i1,x1=>Chk (decide (y1.x_.Race.size+Gy.size<1073741824)) (
  Chk (decide ((y1.x_.Race++Gy).size+y1.x_.Who.size<1073741824)) (
  Chk (Ja x1.length) (
  Vt j1 ys1 (i1+1) (x1++[(Fx.mk ((y1.x_.Race++Gy)++y1.x_.Who) y1.points_)]))))
def Yf(p_t:Il)(p_l:List Fd):Option ((List Fx)×Int):=
  Option.bind (Ws p_t p_l) (λr1=>
  if !decide (r1=0) then
  some (([]:List Fx),r1)
  else
  Option.bind (HH p_t p_l) (λr2=>
  Fq (fun(x1:List Fx)=>
  some (x1,0)) (λj1=>
  Vt j1 r2 0 ([]:List Fx))))
def Ub(p_r:Fp)(r1:(List Fj)×(List (ByteArray×ByteArray))×Int)(j1:(List Fd)->Option ((List Fo)×Int)):List Fj->Nat->(List Fd)->Option ((List Fo)×Int)
  |[],_,x1=>j1 x1
  |y1::ys1,i1,x1=>Chk (Ja x1.length) (
  Ub p_r r1 j1 ys1 (i1+1) (x1++[(Fd.mk p_r.Key y1.Who (Gm r1.2.1 y1.Who Ff) y1.Rank (decide (1<p_r.Legs)))]))
def Uc(j2:(List (ByteArray×Fh))->Option ((List Fo)×Int)):List Fx->Nat->(List (ByteArray×Fh))->Option ((List Fo)×Int)
  |[],_,x2=>j2 x2
  |y2::ys2,i2,x2=>Uc j2 ys2 (i2+1) (Iv x2 y2.Key y2.Points)
def Sd(p_r:Fp)(r1:(List Fj)×(List (ByteArray×ByteArray))×Int)(x2:List (ByteArray×Fh))(j3:(List Fo)->Option ((List Fo)×Int)):List Fj->Nat->(List Fo)->Option ((List Fo)×Int)
  |[],_,x3=>j3 x3
  |y3::ys3,i3,x3=>Chk (decide (p_r.Key.size+Gy.size<1073741824)) (
  Chk (decide ((p_r.Key++Gy).size+y3.Who.size<1073741824)) (
  Fq (fun(x4:Int) (x5:Int)=>
  Chk (Ja x3.length) (
  Sd p_r r1 x2 j3 ys3 (i3+1) (x3++[(Fo.mk y3.Rank y3.Who (Gm r1.2.1 y3.Who Ff) y3.Time y3.Fault (Fh.mk x4 x5))]))) (λj4=>
  if !((Tw x2 ((p_r.Key++Gy)++y3.Who)).isSome) then
  j4 0 1
  else
  j4 ((Gm x2 ((p_r.Key++Gy)++y3.Who) (Fh.mk 0 0)).Num) ((Gm x2 ((p_r.Key++Gy)++y3.Who) (Fh.mk 0 0)).Den))))
def Sm(p_s_p:Ge)(p_s_deeds:List An)(p_r:Fp):Option ((List Fo)×Int):=
  Option.bind (EY p_s_p p_s_deeds p_r.Key) (λr1=>
  if !decide (r1.2.2=0) then
  some (([]:List Fo),r1.2.2)
  else
  Fq (fun(x1:List Fd)=>
  Option.bind (Gz x1) (λr2=>
  Option.bind (Yf p_s_p.Table r2) (λr3=>
  if !decide (r3.2=0) then
  some (([]:List Fo),r3.2)
  else
  Fq (fun(x2:List (ByteArray×Fh))=>
  Fq (fun(x3:List Fo)=>
  some (x3,0)) (λj3=>
  Sd p_r r1 x2 j3 r1.1 0 ([]:List Fo))) (λj2=>
  Uc j2 r3.1 0 ([]:List (ByteArray×Fh)))))) (λj1=>
  Ub p_r r1 j1 r1.1 0 ([]:List Fd)))
def Yg(p_p:Ge)(p_l:List An)(p_race:ByteArray)(p_at:Int):Option ((List Fo)×Int):=
  Option.bind (Ye p_p p_l p_race p_at) (λr1=>
  if !decide (r1.2.2=0) then
  some (([]:List Fo),r1.2.2)
  else
  Option.bind (r1.1) (λr2=>
  Option.bind (Sm r2.p_ r2.deeds_ r1.2.1) (λr3=>
  some (r3.1,r3.2))))
def Jb(n:Int):Option ByteArray:=
  Chk (decide (-9223372036854775808<=n) && decide (n<=9223372036854775807)) (some (⟨(Lib.itoa n).toArray⟩))
def DR(p_n:Int):Bool:=
  (Fv p_n 1 360000)
def Ph(p_n:Int):ByteArray:=
  strOfNums [IntKind.wrap .u8 (W (48+(W (Int.tdiv p_n 10)))),IntKind.wrap .u8 (W (48+(Int.tmod p_n 10)))]
def JD(p_time:Int):Option (ByteArray×Int):=
  if !(DR p_time) then
  some (Ff,1)
  else
  Chk (decide (LJ.size+(Ph (Int.tmod p_time 100)).size<1073741824)) (
  if decide (p_time<6000) then
  Option.bind (Jb (W (Int.tdiv p_time 100))) (λr1=>
  Chk (decide (r1.size+(LJ++(Ph (Int.tmod p_time 100))).size<1073741824)) (
  some (r1++(LJ++(Ph (Int.tmod p_time 100))),0)))
  else
  Option.bind (Jb (W (Int.tdiv p_time 6000))) (λr2=>
  Chk (decide (r2.size+QU.size<1073741824)) (
  Chk (decide ((r2++QU).size+(Ph (Int.tmod (W (Int.tdiv p_time 100)) 60)).size<1073741824)) (
  Chk (decide (((r2++QU)++(Ph (Int.tmod (W (Int.tdiv p_time 100)) 60))).size+(LJ++(Ph (Int.tmod p_time 100))).size<1073741824)) (
  some (((r2++QU)++(Ph (Int.tmod (W (Int.tdiv p_time 100)) 60)))++(LJ++(Ph (Int.tmod p_time 100))),0))))))
def AE(p_time:Int):Option ByteArray:=
  if decide (p_time=0) then
  some BK
  else
  Option.bind (JD p_time) (λr1=>
  some r1.1)
def BX(p_f:Fh):Option ByteArray:=
  Option.bind (Jb p_f.Num) (λr1=>
  Chk (decide (r1.size+XT.size<1073741824)) (
  Option.bind (Jb p_f.Den) (λr2=>
  Chk (decide ((r1++XT).size+r2.size<1073741824)) (
  some ((r1++XT)++r2)))))
def Qt(j1:(List ByteArray)->Option ((List ByteArray)×Int)):List Fo->Nat->(List ByteArray)->Option ((List ByteArray)×Int)
  |[],_,x1=>j1 x1
  |y1::ys1,i1,x1=>Option.bind (Jb y1.Rank) (λr2=>
  Chk (decide (r2.size+Gy.size<1073741824)) (
  Chk (decide ((r2++Gy).size+y1.Who.size<1073741824)) (
  Chk (decide (((r2++Gy)++y1.Who).size+Gy.size<1073741824)) (
  Option.bind (AE y1.Time) (λr3=>
  Chk (decide ((((r2++Gy)++y1.Who)++Gy).size+r3.size<1073741824)) (
  Chk (decide (((((r2++Gy)++y1.Who)++Gy)++r3).size+Gy.size<1073741824)) (
  Option.bind (BX y1.Points) (λr4=>
  Chk (decide ((((((r2++Gy)++y1.Who)++Gy)++r3)++Gy).size+r4.size<1073741824)) (
  Chk (Ja x1.length) (
  Qt j1 ys1 (i1+1) (x1++[(((((r2++Gy)++y1.Who)++Gy)++r3)++Gy)++r4])))))))))))
def EZ(p_c_p:Ge)(_:Gf)(p_c_l:List An)(p_c_at:Int)(p_race:ByteArray):Option ((List ByteArray)×Int):=
  Option.bind (Yg p_c_p p_c_l p_race p_c_at) (λr1=>
  Fq (fun(x1:List ByteArray)=>
  some (x1,r1.2)) (λj1=>
  Qt j1 r1.1 0 ([]:List ByteArray)))
def Xd(j1:(List Fi)->Option (List Fi)):List An->Nat->(List Fi)->Option (List Fi)
  |[],_,x1=>j1 x1
  |y1::ys1,i1,x1=>Chk (Ja x1.length) (
  Xd j1 ys1 (i1+1) (x1++[(Fi.mk y1.Who y1.Time)]))
def BY(p_s_p:Ge)(p_s_deeds:List An)(p_race:ByteArray):Option (List Fi):=
  Option.bind (Sl p_s_p p_s_deeds p_race) (λr1=>
  Fq (fun(x1:List Fi)=>
  some x1) (λj1=>
  Xd j1 r1 0 ([]:List Fi)))
def FA(p_p:Gf)(p_l:List Fi):Option Int:=
  if !decide ((Mw p_p)=0) then
  some (Mw p_p)
  else
  Option.bind (Xy p_l) (λr1=>
  some r1)
def Wo(p_many:Int)(p_p:Gf)(j1:(List Int)->Option ((List Int)×Int)):Nat->(List Int)->Int->Option ((List Int)×Int)
  |0,_,_=>none
  |m1+1,x1,x2=>if decide (x2<(W (Int.tdiv (W ((W (p_many+(W ((W (p_p.High-p_p.Low))+1))))-1)) (W ((W (p_p.High-p_p.Low))+1))))) then
  Fq (fun(x3:List Int)=>
  Wo p_many p_p j1 m1 x3 (W (x2+1))) (λj2=>
  Fq (fun(x4:List Int)=>
  j2 x4) (λj3=>
  if decide (x2=0) then
  Chk (Ja x1.length) (
  j3 (x1++[W (p_many-(W ((W ((W (p_p.High-p_p.Low))+1))*(W ((W (Int.tdiv (W ((W (p_many+(W ((W (p_p.High-p_p.Low))+1))))-1)) (W ((W (p_p.High-p_p.Low))+1))))-1)))))]))
  else
  Chk (Ja x1.length) (
  j3 (x1++[W ((W (p_p.High-p_p.Low))+1)]))))
  else
  j1 x1
def JT(p_p:Gf)(p_many:Int):Option ((List Int)×Int):=
  Chk (!decide ((W ((W (p_p.High-p_p.Low))+1))=0)) (
  if decide (60<(W (Int.tdiv (W ((W (p_many+(W ((W (p_p.High-p_p.Low))+1))))-1)) (W ((W (p_p.High-p_p.Low))+1))))) then
  some (([]:List Int),2)
  else
  Fq (fun(x1:List Int)=>
  Fq (fun(c1:Bool)=>
  Fq (fun(x5:List Int)=>
  some (x5,0)) (λj5=>
  if c1 then
  Chk (inB 0 x1.length) (
  Chk (inB 1 x1.length) (
  Chk (inB 0 x1.length) (
  Chk (inB 0 x1.length) (
  Chk (inB 1 (x1.set ((0:Int).toNat) (W ((nth x1 0)+(Xp (W (p_p.Least-(nth x1 0))) (W ((nth x1 1)-p_p.Least)))))).length) (
  Chk (inB 1 (x1.set ((0:Int).toNat) (W ((nth x1 0)+(Xp (W (p_p.Least-(nth x1 0))) (W ((nth x1 1)-p_p.Least)))))).length) (
  j5 ((x1.set ((0:Int).toNat) (W ((nth x1 0)+(Xp (W (p_p.Least-(nth x1 0))) (W ((nth x1 1)-p_p.Least)))))).set ((1:Int).toNat) (W ((nth (x1.set ((0:Int).toNat) (W ((nth x1 0)+(Xp (W (p_p.Least-(nth x1 0))) (W ((nth x1 1)-p_p.Least)))))) 1)-(Xp (W (p_p.Least-(nth x1 0))) (W ((nth x1 1)-p_p.Least))))))))))))
  else
  j5 x1)) (λj4=>
  if(decide (1<(W (Int.tdiv (W ((W (p_many+(W ((W (p_p.High-p_p.Low))+1))))-1)) (W ((W (p_p.High-p_p.Low))+1)))))) then Chk (inB 0 x1.length) (
  j4 ((decide (1<(W (Int.tdiv (W ((W (p_many+(W ((W (p_p.High-p_p.Low))+1))))-1)) (W ((W (p_p.High-p_p.Low))+1)))))) && (decide ((nth x1 0)<p_p.Least)))) else j4 ((decide (1<(W (Int.tdiv (W ((W (p_many+(W ((W (p_p.High-p_p.Low))+1))))-1)) (W ((W (p_p.High-p_p.Low))+1)))))) && true))) (λj1=>
  Wo p_many p_p j1 (((W (Int.tdiv (W ((W (p_many+(W ((W (p_p.High-p_p.Low))+1))))-1)) (W ((W (p_p.High-p_p.Low))+1))))-0).toNat+2) ([]:List Int) 0))
def Vi(p_s:List Fi):Option (List Fi):=
  Chk (decide ((([]:List Fi):List Fi).length+p_s.length<1073741824)) (
  some ((([]:List Fi):List Fi)++p_s))
def Yh(p_a:Int)(p_b:Int):Int:=
  if !decide ((decide (p_a=0))=(decide (p_b=0))) then
  if decide (p_a=0) then
  1
  else
  (-1)
  else
  (Jt p_a p_b)
def Tj(p_a:Fi)(p_b:Fi):Int:=
  (Yh p_a.Time p_b.Time)
def Hn(pc:Fi->Fi->Int)(p_a:Int)(j2:(List Fi)->Option (List Fi)):Nat->(List Fi)->Int->Option (List Fi)
  |0,_,_=>none
  |m2+1,x3,x4=>Fq (fun(x5:Bool)=>
  if x5 then
  Chk (inB (W (x4-1)) x3.length) (
  Chk (inB x4 x3.length) (
  Chk (inB x4 x3.length) (
  Chk (inB (W (x4-1)) (x3.set x4.toNat (nth x3 (W (x4-1)))).length) (
  Hn pc p_a j2 m2 ((x3.set x4.toNat (nth x3 (W (x4-1)))).set ((W (x4-1)).toNat) (nth x3 x4)) (W (x4-1))))))
  else
  j2 x3) (λj3=>
  if decide (p_a<x4) then
  Chk (inB x4 x3.length) (
  Chk (inB (W (x4-1)) x3.length) (
  j3 (decide ((pc (nth x3 x4) (nth x3 (W (x4-1))))<0))))
  else
  j3 false)
def Ij(pc:Fi->Fi->Int)(p_b:Int)(p_a:Int)(j1:(List Fi)->Option (List Fi)):Nat->(List Fi)->Int->Option (List Fi)
  |0,_,_=>none
  |m1+1,x1,x2=>if decide (x2<p_b) then
  Fq (fun(x3:List Fi)=>
  Ij pc p_b p_a j1 m1 x3 (W (x2+1))) (λj2=>
  Hn pc p_a j2 ((x2-p_a).toNat+2) x1 x2)
  else
  j1 x1
def Hk(pc:Fi->Fi->Int)(p_data:List Fi)(p_a:Int)(p_b:Int):Option (List Fi):=
  Fq (fun(x1:List Fi)=>
  some x1) (λj1=>
  Ij pc p_b p_a j1 ((p_b-(W (p_a+1))).toNat+2) p_data (W (p_a+1)))
def Kk(pc:Fi->Fi->Int)(p_data:List Fi)(p_a:Int)(j1:Int->Option (List Fi)):Nat->Int->Int->Option (List Fi)
  |0,_,_=>none
  |m1+1,x1,x2=>if decide (x1<x2) then
  Fq (fun(x3:Int) (x4:Int)=>
  Kk pc p_data p_a j1 m1 x3 x4) (λj2=>
  Chk (inB (W (Py .u64 (IntKind.wrap .u64 (W (x1+x2))) 1)) p_data.length) (
  Chk (inB p_a p_data.length) (
  Fq (fun(x5:Int) (x6:Int)=>
  j2 x5 x6) (λj3=>
  if decide ((pc (nth p_data (W (Py .u64 (IntKind.wrap .u64 (W (x1+x2))) 1))) (nth p_data p_a))<0) then
  j3 (W ((W (Py .u64 (IntKind.wrap .u64 (W (x1+x2))) 1))+1)) x2
  else
  j3 x1 (W (Py .u64 (IntKind.wrap .u64 (W (x1+x2))) 1))))))
  else
  j1 x1
def Mi(pc:Fi->Fi->Int)(x1:Int)(j4:(List Fi)->Option (List Fi)):Nat->(List Fi)->Int->Option (List Fi)
  |0,_,_=>none
  |m2+1,x7,x8=>if decide (x8<(W (x1-1))) then
  Chk (inB (W (x8+1)) x7.length) (
  Chk (inB x8 x7.length) (
  Chk (inB x8 x7.length) (
  Chk (inB (W (x8+1)) (x7.set x8.toNat (nth x7 (W (x8+1)))).length) (
  Mi pc x1 j4 m2 ((x7.set x8.toNat (nth x7 (W (x8+1)))).set ((W (x8+1)).toNat) (nth x7 x8)) (W (x8+1))))))
  else
  j4 x7
def Kl(pc:Fi->Fi->Int)(p_m:Int)(p_data:List Fi)(j5:Int->Option (List Fi)):Nat->Int->Int->Option (List Fi)
  |0,_,_=>none
  |m3+1,x9,x10=>if decide (x9<x10) then
  Fq (fun(x11:Int) (x12:Int)=>
  Kl pc p_m p_data j5 m3 x11 x12) (λj6=>
  Chk (inB p_m p_data.length) (
  Chk (inB (W (Py .u64 (IntKind.wrap .u64 (W (x9+x10))) 1)) p_data.length) (
  Fq (fun(x13:Int) (x14:Int)=>
  j6 x13 x14) (λj7=>
  if !(decide ((pc (nth p_data p_m) (nth p_data (W (Py .u64 (IntKind.wrap .u64 (W (x9+x10))) 1))))<0)) then
  j7 (W ((W (Py .u64 (IntKind.wrap .u64 (W (x9+x10))) 1))+1)) x10
  else
  j7 x9 (W (Py .u64 (IntKind.wrap .u64 (W (x9+x10))) 1))))))
  else
  j5 x9
def Mj(pc:Fi->Fi->Int)(x9:Int)(j8:(List Fi)->Option (List Fi)):Nat->(List Fi)->Int->Option (List Fi)
  |0,_,_=>none
  |m4+1,x15,x16=>if decide (x9<x16) then
  Chk (inB (W (x16-1)) x15.length) (
  Chk (inB x16 x15.length) (
  Chk (inB x16 x15.length) (
  Chk (inB (W (x16-1)) (x15.set x16.toNat (nth x15 (W (x16-1)))).length) (
  Mj pc x9 j8 m4 ((x15.set x16.toNat (nth x15 (W (x16-1)))).set ((W (x16-1)).toNat) (nth x15 x16)) (W (x16-1))))))
  else
  j8 x15
def Km(pc:Fi->Fi->Int)(p_a:Int)(p_b:Int)(p_m:Int)(p_data:List Fi)(j10:Int->Option (List Fi)):Nat->Int->Int->Option (List Fi)
  |0,_,_=>none
  |m5+1,x19,x20=>if decide (x19<x20) then
  Fq (fun(x21:Int) (x22:Int)=>
  Km pc p_a p_b p_m p_data j10 m5 x21 x22) (λj11=>
  Chk (inB (W ((W ((W ((W (Py .u64 (IntKind.wrap .u64 (W (p_a+p_b))) 1))+p_m))-1))-(W (Py .u64 (IntKind.wrap .u64 (W (x19+x20))) 1)))) p_data.length) (
  Chk (inB (W (Py .u64 (IntKind.wrap .u64 (W (x19+x20))) 1)) p_data.length) (
  Fq (fun(x23:Int) (x24:Int)=>
  j11 x23 x24) (λj12=>
  if !(decide ((pc (nth p_data (W ((W ((W ((W (Py .u64 (IntKind.wrap .u64 (W (p_a+p_b))) 1))+p_m))-1))-(W (Py .u64 (IntKind.wrap .u64 (W (x19+x20))) 1))))) (nth p_data (W (Py .u64 (IntKind.wrap .u64 (W (x19+x20))) 1))))<0)) then
  j12 (W ((W (Py .u64 (IntKind.wrap .u64 (W (x19+x20))) 1))+1)) x20
  else
  j12 x19 (W (Py .u64 (IntKind.wrap .u64 (W (x19+x20))) 1))))))
  else
  j10 x19
def Pb(pc:Fi->Fi->Int)(self:(List Fi)->Int->Int->Int->Option (List Fi))(p_data:List Fi)(p_a:Int)(p_m:Int)(p_b:Int):Option (List Fi):=
  if decide ((W (p_m-p_a))=1) then
  Fq (fun(x1:Int)=>
  Fq (fun(x7:List Fi)=>
  some x7) (λj4=>
  Mi pc x1 j4 (((W (x1-1))-p_a).toNat+2) p_data p_a)) (λj1=>
  Kk pc p_data p_a j1 ((p_b-p_m).toNat+2) p_m p_b)
  else
  if decide ((W (p_b-p_m))=1) then
  Fq (fun(x9:Int)=>
  Fq (fun(x15:List Fi)=>
  some x15) (λj8=>
  Mj pc x9 j8 ((p_m-x9).toNat+2) p_data p_m)) (λj5=>
  Kl pc p_m p_data j5 ((p_m-p_a).toNat+2) p_a p_m)
  else
  Fq (fun(x17:Int) (x18:Int)=>
  Fq (fun(x19:Int)=>
  if((decide (x19<p_m)) && (decide (p_m<(W ((W ((W (Py .u64 (IntKind.wrap .u64 (W (p_a+p_b))) 1))+p_m))-x19))))) then
  none
  else
  Fq (fun(x25:List Fi)=>
  Fq (fun(x26:List Fi)=>
  some x26) (λj14=>
  if((decide ((W (Py .u64 (IntKind.wrap .u64 (W (p_a+p_b))) 1))<(W ((W ((W (Py .u64 (IntKind.wrap .u64 (W (p_a+p_b))) 1))+p_m))-x19)))) && (decide ((W ((W ((W (Py .u64 (IntKind.wrap .u64 (W (p_a+p_b))) 1))+p_m))-x19))<p_b))) then
  Option.bind (self x25 (W (Py .u64 (IntKind.wrap .u64 (W (p_a+p_b))) 1)) (W ((W ((W (Py .u64 (IntKind.wrap .u64 (W (p_a+p_b))) 1))+p_m))-x19)) p_b) (λr2=>
  j14 r2)
  else
  j14 x25)) (λj13=>
  if((decide (p_a<x19)) && (decide (x19<(W (Py .u64 (IntKind.wrap .u64 (W (p_a+p_b))) 1))))) then
  Option.bind (self p_data p_a x19 (W (Py .u64 (IntKind.wrap .u64 (W (p_a+p_b))) 1))) (λr1=>
  j13 r1)
  else
  j13 p_data)) (λj10=>
  Km pc p_a p_b p_m p_data j10 ((x18-x17).toNat+2) x17 x18)) (λj9=>
  if decide ((W (Py .u64 (IntKind.wrap .u64 (W (p_a+p_b))) 1))<p_m) then
  j9 (W ((W ((W (Py .u64 (IntKind.wrap .u64 (W (p_a+p_b))) 1))+p_m))-p_b)) (W (Py .u64 (IntKind.wrap .u64 (W (p_a+p_b))) 1))
  else
  j9 p_a p_m)
def Iu(pc:Fi->Fi->Int):Nat->(List Fi)->Int->Int->Int->Option (List Fi)
  |0,_,_,_,_=>none
  |m+1,p_data,p_a,p_m,p_b=>Pb pc (Iu pc m) p_data p_a p_m p_b
def Jy(pc:Fi->Fi->Int)(p_n:Int)(j1:(List Fi)->Int->Option (List Fi)):Nat->(List Fi)->Int->Int->Option (List Fi)
  |0,_,_,_=>none
  |m1+1,x1,x2,x3=>if decide (x3<=p_n) then
  Option.bind (Hk pc x1 x2 x3) (λr1=>
  Jy pc p_n j1 m1 r1 x3 (W (x3+20)))
  else
  j1 x1 x2
def Lh(pc:Fi->Fi->Int)(p_n:Int)(x5:Int)(j3:(List Fi)->Int->Option (List Fi)):Nat->(List Fi)->Int->Int->Option (List Fi)
  |0,_,_,_=>none
  |m3+1,x6,x7,x8=>if decide (x8<=p_n) then
  Option.bind (Iu pc 16 x6 x7 (W (x7+x5)) x8) (λr3=>
  Lh pc p_n x5 j3 m3 r3 x8 (W (x8+(W (2*x5)))))
  else
  j3 x6 x7
def Hr(pc:Fi->Fi->Int)(p_n:Int)(j2:(List Fi)->Option (List Fi)):Nat->(List Fi)->Int->Option (List Fi)
  |0,_,_=>none
  |m2+1,x4,x5=>if decide (x5<p_n) then
  Fq (fun(x6:List Fi) (x7:Int)=>
  Fq (fun(x9:List Fi)=>
  Hr pc p_n j2 m2 x9 (W (x5*2))) (λj4=>
  if decide ((W (x7+x5))<p_n) then
  Option.bind (Iu pc 16 x6 x7 (W (x7+x5)) p_n) (λr4=>
  j4 r4)
  else
  j4 x6)) (λj3=>
  Lh pc p_n x5 j3 ((p_n-(W (2*x5))).toNat+2) x4 0 (W (2*x5)))
  else
  j2 x4
def Ou(pc:Fi->Fi->Int)(p_data:List Fi)(p_n:Int):Option (List Fi):=
  Fq (fun(x1:List Fi) (x2:Int)=>
  Option.bind (Hk pc x1 x2 p_n) (λr2=>
  Fq (fun(x4:List Fi)=>
  some x4) (λj2=>
  Hr pc p_n j2 ((p_n-20).toNat+2) r2 20))) (λj1=>
  Jy pc p_n j1 ((p_n-20).toNat+2) p_data 0 20)
def Ie(pc:Fi->Fi->Int)(p_x:List Fi):Option (List Fi):=
  Option.bind (Ou pc p_x (p_x.length:Int)) (λr1=>
  some r1)
def CQ(p_l:List Fi):Option (List Fi):=
  Option.bind (Vi p_l) (λr1=>
  Option.bind (Ie Tj r1) (λr2=>
  some r2))
def Yi(p_at:Int)(p_first:Int)(p_end:Int):Int:=
  if decide (p_at=p_first) then
  W (p_end-1)
  else
  W (p_at-1)
def Tk(p_p:Gf)(j1:(List Int)->Option (List Int)):Nat->(List Int)->Int->Option (List Int)
  |0,_,_=>none
  |m1+1,x1,x2=>if decide ((x1.length:Int)<(W ((W (p_p.High-p_p.Low))+1))) then
  Fq (fun(x3:List Int)=>
  Tk p_p j1 m1 x3 (W (x2+1))) (λj2=>
  Fq (fun(x4:List Int)=>
  Fq (fun(x5:List Int)=>
  j2 x5) (λj4=>
  if decide (p_p.Low<=(W ((W (Int.tdiv (W (p_p.Low+p_p.High)) 2))-x2))) then
  Chk (Ja x4.length) (
  j4 (x4++[W ((W (Int.tdiv (W (p_p.Low+p_p.High)) 2))-x2)]))
  else
  j4 x4)) (λj3=>
  if decide ((W ((W (Int.tdiv (W (p_p.Low+p_p.High)) 2))+x2))<=p_p.High) then
  Chk (Ja x1.length) (
  j3 (x1++[W ((W (Int.tdiv (W (p_p.Low+p_p.High)) 2))+x2)]))
  else
  j3 x1))
  else
  j1 x1
def Yj(p_p:Gf):Option (List Int):=
  Fq (fun(x1:List Int)=>
  some x1) (λj1=>
  Tk p_p j1 (((W ((W (p_p.High-p_p.Low))+1))-(([W (Int.tdiv (W (p_p.Low+p_p.High)) 2)]:List Int).length:Int)).toNat+2) ([W (Int.tdiv (W (p_p.Low+p_p.High)) 2)]:List Int) 1)
def Mk(p_a:Ft)(p_b:Ft):Int:=
  (Ss [(Jt p_a.Heat p_b.Heat),(Jt p_a.Lane p_b.Lane)])
open Classical in
def Lt(p_x:List Ft):Option (List Ft):=if HC Mk p_x/\p_x.length<4611686018427387904 then some (Nc Mk p_x) else none
def DY(p_l:List Ft):Option (List Ft):=
  Option.bind (Lt p_l) (λr1=>
  some r1)
def Xe(r1:(List Int))(i1:Nat)(j2:(List Ft)->Option (List Ft)):List ByteArray->Nat->(List Ft)->Option (List Ft)
  |[],_,x2=>j2 x2
  |y2::ys2,i2,x2=>Chk (inB (i2:Int) r1.length) (
  Chk (Ja x2.length) (
  Xe r1 i1 j2 ys2 (i2+1) (x2++[(Ft.mk y2 (W ((i1:Int)+1)) (nth r1 (i2:Int)))])))
def Xf(r1:(List Int))(j1:(List Ft)->Option (List Ft)):List (List ByteArray)->Nat->(List Ft)->Option (List Ft)
  |[],_,x1=>j1 x1
  |y1::ys1,i1,x1=>Fq (fun(x2:List Ft)=>
  Xf r1 j1 ys1 (i1+1) x2) (λj2=>
  Xe r1 i1 j2 y1 0 x1)
def Wp(p_p:Gf)(p_heats:List (List ByteArray)):Option (List Ft):=
  Option.bind (Yj p_p) (λr1=>
  Fq (fun(x1:List Ft)=>
  Option.bind (DY x1) (λr3=>
  some r3)) (λj1=>
  Xf r1 j1 p_heats 0 ([]:List Ft)))
def Wi(j2:Int->Option ((List Ft)×Int)):List Int->Nat->Int->Option ((List Ft)×Int)
  |[],_,x2=>j2 x2
  |y1::ys1,i1,x2=>Wi j2 ys1 (i1+1) (W (x2+y1))
def Yk(x3:List (List ByteArray))(r1:(List Int)×Int)(x1:Int)(j4:Int->Option ((List Ft)×Int)):Nat->Int->Option ((List Ft)×Int)
  |0,_=>none
  |m1+1,x5=>Chk (inB x5 x3.length) (
  Chk (inB x5 r1.1.length) (
  if decide (((nth x3 x5).length:Int)=(nth r1.1 x5)) then
  Yk x3 r1 x1 j4 m1 (Yi x5 (W ((r1.1.length:Int)-x1)) (r1.1.length:Int))
  else
  j4 x5))
def Sw(r1:(List Int)×Int)(x1:Int)(j3:(List (List ByteArray))->Option ((List Ft)×Int)):List Fi->Nat->(List (List ByteArray))->Int->Option ((List Ft)×Int)
  |[],_,x3,_=>j3 x3
  |y2::ys2,i2,x3,x4=>Fq (fun(x5:Int)=>
  Chk (inB x5 x3.length) (
  Chk (Ja (nth x3 x5).length) (
  Sw r1 x1 j3 ys2 (i2+1) (x3.set x5.toNat ((nth x3 x5)++[y2.Who])) (Yi x5 (W ((r1.1.length:Int)-x1)) (r1.1.length:Int))))) (λj4=>
  Yk x3 r1 x1 j4 4611686018427387904 x4)
def Yl(x8:Int)(j6:(List (List ByteArray))->Option ((List Ft)×Int)):List Fi->Nat->(List (List ByteArray))->Option ((List Ft)×Int)
  |[],_,x9=>j6 x9
  |y3::ys3,i5,x9=>Chk (inB x8 x9.length) (
  Chk (Ja (nth x9 x8).length) (
  Yl x8 j6 ys3 (i5+1) (x9.set x8.toNat ((nth x9 x8)++[y3.Who]))))
def Uq(r1:(List Int)×Int)(j5:(List (List ByteArray))->Option ((List Ft)×Int)):Nat->(List (List ByteArray))->(List Fi)->Int->Option ((List Ft)×Int)
  |0,_,_,_=>none
  |m2+1,x6,x7,x8=>if decide (0<=x8) then
  Chk (inB x8 r1.1.length) (
  Chk (Tv 0 (nth r1.1 x8) x7.length) (
  Fq (fun(x9:List (List ByteArray))=>
  Chk (inB x8 r1.1.length) (
  Chk (Tv (nth r1.1 x8) (x7.length:Int) x7.length) (
  Uq r1 j5 m2 x9 (cut x7 (nth r1.1 x8) x7.length) (W (x8-1))))) (λj6=>
  Yl x8 j6 (cut x7 0 (nth r1.1 x8)) 0 x6)))
  else
  j5 x6
def GS(p_p:Gf)(p_l:List Fi):Option ((List Ft)×Int):=
  Option.bind (JT p_p (p_l.length:Int)) (λr1=>
  if !decide (r1.2=0) then
  some (([]:List Ft),r1.2)
  else
  Chk (decide (0<=(r1.1.length:Int)) && decide ((r1.1.length:Int)<1073741824)) (
  Fq (fun(x1:Int)=>
  Chk (Tv (W ((r1.1.length:Int)-x1)) (r1.1.length:Int) r1.1.length) (
  Fq (fun(x2:Int)=>
  Option.bind (CQ p_l) (λr2=>
  Chk (Tv 0 x2 r2.length) (
  Fq (fun(x3:List (List ByteArray))=>
  Chk (Tv x2 (r2.length:Int) r2.length) (
  Fq (fun(x6:List (List ByteArray))=>
  Option.bind (Wp p_p x6) (λr3=>
  some (r3,0))) (λj5=>
  Uq r1 j5 (((W ((W ((r1.1.length:Int)-x1))-1))-0).toNat+2) x3 (cut r2 x2 r2.length) (W ((W ((r1.1.length:Int)-x1))-1))))) (λj3=>
  Sw r1 x1 j3 (cut r2 0 x2) 0 (List.replicate ((r1.1.length:Int).toNat) []:List (List ByteArray)) (W ((r1.1.length:Int)-1)))))) (λj2=>
  Wi j2 (cut r1.1 (W ((r1.1.length:Int)-x1)) r1.1.length) 0 0))) (λj1=>
  if decide ((Xp p_p.Circles (r1.1.length:Int))<2) then
  j1 0
  else
  j1 (Xp p_p.Circles (r1.1.length:Int)))))
def SD(p_p:Gf)(p_l:List Fi):Option ((List Ft)×Int):=
  Option.bind (FA p_p p_l) (λr1=>
  if !decide (r1=0) then
  some (([]:List Ft),r1)
  else
  Option.bind (GS p_p p_l) (λr2=>
  some (r2.1,r2.2)))
def HI(p_p:Ge)(p_q:Gf)(p_l:List An)(p_race:ByteArray)(p_at:Int):Option ((List Ft)×Int):=
  Option.bind (Sr p_p) (λr1=>
  if !decide (r1=0) then
  some (([]:List Ft),r1)
  else
  if !decide ((Mw p_q)=0) then
  some (([]:List Ft),(Mw p_q))
  else
  Option.bind (Ye p_p p_l p_race p_at) (λr2=>
  if !decide (r2.2.2=0) then
  some (([]:List Ft),r2.2.2)
  else
  Option.bind (r2.1) (λr3=>
  Option.bind (BY r3.p_ r3.deeds_ p_race) (λr4=>
  Option.bind (SD p_q r4) (λr5=>
  some (r5.1,r5.2))))))
def CR(p_s_p:Ge)(p_s_deeds:List An)(j1:Option Int):List Fp->Nat->Option Int
  |[],_=>j1
  |y1::ys1,i1=>Option.bind (BU p_s_p p_s_deeds y1.Key) (λr1=>
  if !decide (r1.2=0) then
  some r1.2
  else
  CR p_s_p p_s_deeds j1 ys1 (i1+1))
def GT(p_s_p:Ge)(p_s_deeds:List An):Option Int:=
  Fq (some 0) (λj1=>
  CR p_s_p p_s_deeds j1 p_s_p.Races 0)
def QV(p_a:Fh)(p_b:Fh):Option Fh:=
  Option.bind (Nr (W ((W (p_a.Num*p_b.Den))+(W (p_b.Num*p_a.Den)))) (W (p_a.Den*p_b.Den))) (λr1=>
  some r1)
def BZ(p_a:Fx)(p_b:Fx):Int:=
  (Ic p_a.Key p_b.Key)
open Classical in
def Jp(p_x:List Fx):Option (List Fx):=if HC BZ p_x/\p_x.length<4611686018427387904 then some (Nc BZ p_x) else none
def Zm(j2:(List (ByteArray×Fh))->Option ((List Fx)×Int)):List An->Nat->(List (ByteArray×Fh))->Option ((List Fx)×Int)
  |[],_,x2=>j2 x2
  |y2::ys2,i2,x2=>Fq (fun(x3:List (ByteArray×Fh))=>
  Zm j2 ys2 (i2+1) x3) (λj3=>
  Fq (fun(x4:List (ByteArray×Fh))=>
  j3 x4) (λj4=>
  if((!decide (y2.Club=Ff)) && (!((Tw x2 y2.Club).isSome))) then
  j4 (Iv x2 y2.Club (Fh.mk 0 1))
  else
  j4 x2))
def Xg(j5:(List (ByteArray×Fh))->Option ((List Fx)×Int)):List Fo->Nat->(List (ByteArray×Fh))->Option ((List Fx)×Int)
  |[],_,x5=>j5 x5
  |y3::ys3,i3,x5=>Fq (fun(x6:List (ByteArray×Fh))=>
  Xg j5 ys3 (i3+1) x6) (λj6=>
  Fq (fun(x7:List (ByteArray×Fh))=>
  j6 x7) (λj7=>
  if !decide (y3.Club=Ff) then
  Option.bind (QV (Gm x5 y3.Club (Fh.mk 0 0)) y3.Points) (λr4=>
  j7 (Iv x5 y3.Club r4))
  else
  j7 x5))
def Sy(p_s_p:Ge)(p_s_deeds:List An)(j1:(List (ByteArray×Fh))->Option ((List Fx)×Int)):List Fp->Nat->(List (ByteArray×Fh))->Option ((List Fx)×Int)
  |[],_,x1=>j1 x1
  |y1::ys1,i1,x1=>Option.bind (Sl p_s_p p_s_deeds y1.Key) (λr2=>
  Fq (fun(x2:List (ByteArray×Fh))=>
  Option.bind (Sm p_s_p p_s_deeds y1) (λr3=>
  if !decide (r3.2=0) then
  some (([]:List Fx),r3.2)
  else
  Fq (fun(x5:List (ByteArray×Fh))=>
  Sy p_s_p p_s_deeds j1 ys1 (i1+1) x5) (λj5=>
  Xg j5 r3.1 0 x2))) (λj2=>
  Zm j2 r2 0 x1))
def Zn(j8:(List Fx)->Option ((List Fx)×Int)):List (ByteArray×Fh)->(List Fx)->Option ((List Fx)×Int)
  |[],x8=>j8 x8
  |y4::ys4,x8=>Option.bind (α:=(List Fx)) (
  Chk (Ja x8.length) (
  some (x8++[(Fx.mk y4.1 y4.2)]))) (λs=>Zn j8 ys4 s)
def HJ(p_s_p:Ge)(p_s_deeds:List An):Option ((List Fx)×Int):=
  Option.bind (GT p_s_p p_s_deeds) (λr1=>
  if !decide (r1=0) then
  some (([]:List Fx),r1)
  else
  Fq (fun(x1:List (ByteArray×Fh))=>
  Fq (fun(x8:List Fx)=>
  Option.bind (Jp x8) (λr5=>
  some (r5,0))) (λj8=>
  AllP x1 (λp=>Zn j8 p ([]:List Fx)))) (λj1=>
  Sy p_s_p p_s_deeds j1 p_s_p.Races 0 ([]:List (ByteArray×Fh))))
def JU(p_p:Ge)(p_l:List An)(p_at:Int):Option ((List Fx)×Int):=
  Option.bind (Zg p_p p_l ([p_at]:List Int)) (λr1=>
  if !decide (r1.2=0) then
  some (([]:List Fx),r1.2)
  else
  Option.bind (r1.1) (λr2=>
  Option.bind (HJ r2.p_ r2.deeds_) (λr3=>
  some (r3.1,r3.2))))
def EF(p_x:An)(p_a1:ByteArray):Bool:=
  decide (p_x.Who=p_a1)
def He(p_f_0:ByteArray)(j1:Int):List An->Nat->Int
  |[],_=>j1
  |y1::ys1,i1=>if(EF y1 p_f_0) then
  (i1:Int)
  else
  He p_f_0 j1 ys1 (i1+1)
def Ji(p_s:List An)(p_f_0:ByteArray):Int:=
  Fq ((-1)) (λj1=>
  He p_f_0 j1 p_s 0)
def Zy(p_who:ByteArray)(y1:Fp)(j3:ByteArray->Option ((List ByteArray)×Int)):List Fo->Nat->ByteArray->Option ((List ByteArray)×Int)
  |[],_,x3=>j3 x3
  |y2::ys2,i2,x3=>Fq (fun(x4:ByteArray)=>
  Zy p_who y1 j3 ys2 (i2+1) x4) (λj4=>
  Fq (fun(x5:ByteArray)=>
  j4 x5) (λj5=>
  if decide (y2.Who=p_who) then
  Fq (fun(x6:ByteArray)=>
  Chk (decide (y1.Key.size+Gy.size<1073741824)) (
  Chk (decide ((y1.Key++Gy).size+x6.size<1073741824)) (
  Chk (decide (((y1.Key++Gy)++x6).size+Gy.size<1073741824)) (
  Option.bind (AE y2.Time) (λr6=>
  Chk (decide ((((y1.Key++Gy)++x6)++Gy).size+r6.size<1073741824)) (
  j5 ((((y1.Key++Gy)++x6)++Gy)++r6))))))) (λj6=>
  if decide (0<y2.Rank) then
  Option.bind (Jb y2.Rank) (λr5=>
  j6 r5)
  else
  j6 BK)
  else
  j5 x3))
def EG(p_s_p:Ge)(p_s_deeds:List An)(p_who:ByteArray)(j1:(List ByteArray)->Option ((List ByteArray)×Int)):List Fp->Nat->(List ByteArray)->Option ((List ByteArray)×Int)
  |[],_,x1=>j1 x1
  |y1::ys1,i1,x1=>Fq (fun(x2:List ByteArray)=>
  EG p_s_p p_s_deeds p_who j1 ys1 (i1+1) x2) (λj2=>
  Option.bind (Sl p_s_p p_s_deeds y1.Key) (λr2=>
  if decide ((Ji r2 p_who)<0) then
  j2 x1
  else
  Option.bind (Sm p_s_p p_s_deeds y1) (λr3=>
  if !decide (r3.2=0) then
  some (([]:List ByteArray),r3.2)
  else
  Chk (decide (y1.Key.size+Wm.size<1073741824)) (
  Chk (inB (Ji r2 p_who) r2.length) (
  Option.bind (AE ((nth r2 (Ji r2 p_who)).Time)) (λr4=>
  Chk (decide ((y1.Key++Wm).size+r4.size<1073741824)) (
  Fq (fun(x3:ByteArray)=>
  Chk (Ja x1.length) (
  j2 (x1++[x3]))) (λj3=>
  Zy p_who y1 j3 r3.1 0 ((y1.Key++Wm)++r4)))))))))
def VB(p_s_p:Ge)(p_s_deeds:List An)(p_who:ByteArray):Option ((List ByteArray)×Int):=
  Option.bind (GT p_s_p p_s_deeds) (λr1=>
  if !decide (r1=0) then
  some (([]:List ByteArray),r1)
  else
  Fq (fun(x1:List ByteArray)=>
  some (x1,0)) (λj1=>
  EG p_s_p p_s_deeds p_who j1 p_s_p.Races 0 ([]:List ByteArray)))
def ON(p_p:Ge)(p_l:List An)(p_who:ByteArray)(p_at:Int):Option ((List ByteArray)×Int):=
  Option.bind (Zg p_p p_l ([p_at]:List Int)) (λr1=>
  if !decide (r1.2=0) then
  some (([]:List ByteArray),r1.2)
  else
  Option.bind (r1.1) (λr2=>
  Option.bind (VB r2.p_ r2.deeds_ p_who) (λr3=>
  if !decide (r3.2=0) then
  some (([]:List ByteArray),r3.2)
  else
  Option.bind (Gh p_who) (λr4=>
  if !r4 then
  some (([]:List ByteArray),5)
  else
  some (r3.1,0)))))
def Uf(p_s_p:Ge)(p_s_deeds:List An)(y1:Fp)(j2:(List Hu)->Option ((List Hu)×Int)):List An->Nat->(List Hu)->Option ((List Hu)×Int)
  |[],_,x2=>j2 x2
  |y2::ys2,i2,x2=>Fq (fun(x3:List Hu)=>
  Uf p_s_p p_s_deeds y1 j2 ys2 (i2+1) x3) (λj3=>
  Fq (fun(x4:List Hu)=>
  j3 x4) (λj4=>
  if !((Tw (AC p_s_p p_s_deeds y1.Key) y2.Who).isSome) then
  Chk (Ja x2.length) (
  j4 (x2++[(Hu.mk y1.Key y2.Who)]))
  else
  j4 x2))
def Se(p_s_p:Ge)(p_s_deeds:List An)(j1:(List Hu)->Option ((List Hu)×Int)):List Fp->Nat->(List Hu)->Option ((List Hu)×Int)
  |[],_,x1=>j1 x1
  |y1::ys1,i1,x1=>Option.bind (Sl p_s_p p_s_deeds y1.Key) (λr2=>
  Fq (fun(x2:List Hu)=>
  Se p_s_p p_s_deeds j1 ys1 (i1+1) x2) (λj2=>
  Uf p_s_p p_s_deeds y1 j2 r2 0 x1))
def DS(p_s_p:Ge)(p_s_deeds:List An):Option ((List Hu)×Int):=
  Option.bind (GT p_s_p p_s_deeds) (λr1=>
  if !decide (r1=0) then
  some (([]:List Hu),r1)
  else
  Fq (fun(x1:List Hu)=>
  some (x1,0)) (λj1=>
  Se p_s_p p_s_deeds j1 p_s_p.Races 0 ([]:List Hu)))
def FB(p_p:Ge)(p_l:List An)(p_at:Int):Option ((List Hu)×Int):=
  Option.bind (Zg p_p p_l ([p_at]:List Int)) (λr1=>
  if !decide (r1.2=0) then
  some (([]:List Hu),r1.2)
  else
  Option.bind (r1.1) (λr2=>
  Option.bind (DS r2.p_ r2.deeds_) (λr3=>
  some (r3.1,r3.2))))
def Qu(j1:(List ByteArray)->Option ((List ByteArray)×Int×Int)):List Ft->Nat->(List ByteArray)->Option ((List ByteArray)×Int×Int)
  |[],_,x1=>j1 x1
  |y1::ys1,i1,x1=>Option.bind (Jb y1.Heat) (λr5=>
  Chk (decide (r5.size+Gy.size<1073741824)) (
  Option.bind (Jb y1.Lane) (λr6=>
  Chk (decide ((r5++Gy).size+r6.size<1073741824)) (
  Chk (decide (((r5++Gy)++r6).size+Gy.size<1073741824)) (
  Chk (decide ((((r5++Gy)++r6)++Gy).size+y1.Who.size<1073741824)) (
  Chk (Ja x1.length) (
  Qu j1 ys1 (i1+1) (x1++[(((r5++Gy)++r6)++Gy)++y1.Who]))))))))
def Qv(j2:(List ByteArray)->Option ((List ByteArray)×Int×Int)):List Fx->Nat->(List ByteArray)->Option ((List ByteArray)×Int×Int)
  |[],_,x2=>j2 x2
  |y2::ys2,i2,x2=>Chk (decide (y2.Key.size+Gy.size<1073741824)) (
  Option.bind (BX y2.Points) (λr8=>
  Chk (decide ((y2.Key++Gy).size+r8.size<1073741824)) (
  Chk (Ja x2.length) (
  Qv j2 ys2 (i2+1) (x2++[(y2.Key++Gy)++r8])))))
def Qw(j3:(List ByteArray)->Option ((List ByteArray)×Int×Int)):List Hu->Nat->(List ByteArray)->Option ((List ByteArray)×Int×Int)
  |[],_,x3=>j3 x3
  |y3::ys3,i3,x3=>Chk (decide (y3.Name.size+Gy.size<1073741824)) (
  Chk (decide ((y3.Name++Gy).size+y3.Value.size<1073741824)) (
  Chk (Ja x3.length) (
  Qw j3 ys3 (i3+1) (x3++[(y3.Name++Gy)++y3.Value]))))
def Ns(p_c_p:Ge)(p_c_q:Gf)(p_c_l:List An)(p_c_at:Int)(p_line:ByteArray):Option ((List ByteArray)×Int×Int):=
  Option.bind (Qs p_line) (λr1=>
  if !r1.2 then
  some (([]:List ByteArray),9,p_c_at)
  else
  Chk (inB 0 r1.1.length) (
  if((decide ((nth r1.1 0)=YI)) && (decide ((r1.1.length:Int)=2))) then
  Chk (inB 1 r1.1.length) (
  Option.bind (JC (nth r1.1 1) 15) (λr2=>
  if !r2.2 then
  some (([]:List ByteArray),9,p_c_at)
  else
  if !(Hf r2.1) then
  some (([]:List ByteArray),1,p_c_at)
  else
  some (([k_ok]:List ByteArray),0,r2.1)))
  else
  Chk (inB 0 r1.1.length) (
  if((decide ((nth r1.1 0)=Uw)) && (decide ((r1.1.length:Int)=2))) then
  Chk (inB 1 r1.1.length) (
  Option.bind (EZ p_c_p p_c_q p_c_l p_c_at (nth r1.1 1)) (λr3=>
  some (r3.1,r3.2,p_c_at)))
  else
  Chk (inB 0 r1.1.length) (
  if((decide ((nth r1.1 0)=AB)) && (decide ((r1.1.length:Int)=2))) then
  Chk (inB 1 r1.1.length) (
  Option.bind (HI p_c_p p_c_q p_c_l (nth r1.1 1) p_c_at) (λr4=>
  Fq (fun(x1:List ByteArray)=>
  some (x1,r4.2,p_c_at)) (λj1=>
  Qu j1 r4.1 0 ([]:List ByteArray))))
  else
  Chk (inB 0 r1.1.length) (
  if((decide ((nth r1.1 0)=Up)) && (decide ((r1.1.length:Int)=1))) then
  Option.bind (JU p_c_p p_c_l p_c_at) (λr7=>
  Fq (fun(x2:List ByteArray)=>
  some (x2,r7.2,p_c_at)) (λj2=>
  Qv j2 r7.1 0 ([]:List ByteArray)))
  else
  Chk (inB 0 r1.1.length) (
  if((decide ((nth r1.1 0)=LK)) && (decide ((r1.1.length:Int)=2))) then
  Chk (inB 1 r1.1.length) (
  Option.bind (ON p_c_p p_c_l (nth r1.1 1) p_c_at) (λr9=>
  some (r9.1,r9.2,p_c_at)))
  else
  Chk (inB 0 r1.1.length) (
  if((decide ((nth r1.1 0)=Wr)) && (decide ((r1.1.length:Int)=1))) then
  Option.bind (FB p_c_p p_c_l p_c_at) (λr10=>
  Fq (fun(x3:List ByteArray)=>
  some (x3,r10.2,p_c_at)) (λj3=>
  Qw j3 r10.1 0 ([]:List ByteArray)))
  else
  some (([]:List ByteArray),9,p_c_at))))))))
def HK(s:ByteArray)(sep:ByteArray):Option (ByteArray×ByteArray×Bool):=
  Chk (decide (s.size<4294967281)) (some ((⟨(Lib.cut s.data.toList sep.data.toList).1.toArray⟩,⟨(Lib.cut s.data.toList sep.data.toList).2.1.toArray⟩,(Lib.cut s.data.toList sep.data.toList).2.2)))
  def Ru (j:ByteArray->Option (ByteArray×Int)):List ByteArray->Nat->ByteArray->Option (ByteArray×Int)
  |[],_,x=>j x
  |y::ys,i,x=>Chk (decide (y.size+Kw.size<1073741824)) (Chk (decide (x.size+(y++Kw).size<=140737488355328)) (Ru j ys (i+1) (x++(y++Kw))))
  def DZ (p:Ge) (q:Gf) (l:List An) (at_:Int) (line x:ByteArray):Option (ByteArray×Int):=
  Option.bind (Ns p q l at_ line) λr=>Fq (fun(a:List ByteArray)=>Fq (fun(y:ByteArray)=>some (y,r.2.2)) λj2=>Ru j2 a 0 x) λj1=>
    if !decide (r.2.1=0) then Option.bind (Jb r.2.1) λs=>Chk (decide (Sp.size+s.size<1073741824)) (j1 [Sp++s]) else j1 r.1
  def Ux (p:Ge) (q:Gf) (l:List An):Nat->ByteArray->Int->ByteArray->Option (ByteArray×Int)
  |0,_,_,_=>none
  |m+1,t,at_,x=>if !decide (t=Ff) then Option.bind (HK t Kw) λr=>if !r.2.2 then some (x,at_) else Option.bind (DZ p q l at_ r.1 x) λr1=>Ux p q l m r.2.1 r1.2 r1.1
    else some (x,at_)
def AF(p:Ge)(q:Gf)(l:List An)(t:ByteArray):Option (ByteArray×Int):=
  Option.bind (Sr p) λe1=>if !decide (e1=0) then some (Ff,e1) else
  if !decide (Mw q=0) then some (Ff,Mw q) else
  Option.bind (Rj l) λe2=>if !decide (e2=0) then some (Ff,e2) else
  if decide (2000<(t.size:Int)) then some (Ff,2) else
  Fq (fun(c:Bool)=>if c then some (Ff,9) else Option.bind (Ux p q l (t.size+1) t 0 Ff) λr=>some (r.1,0)) λj=>
  if !decide (t=Ff) then Option.bind (Qr t Kw) λr=>j ((!decide (t=Ff)) && !r) else j ((!decide (t=Ff)) && true)
def Hd(p_n:Int)(p_low:Int)(p_high:Int):Bool:=
  ((decide (p_low<=p_n)) && (decide (p_n<=p_high)))
def Gq(s:ByteArray)(c:Int):Int:=Lib.indexByte s.data.toList c.toNat.toUInt8
def CS(p_s:ByteArray):Option Bool:=
  Fq (fun(c1:Bool)=>
  Fq (fun(c2:Bool)=>
  some c2) (λj2=>
  if c1 then Chk (inB 0 p_s.size) (
  j2 (c1 && (decide (0<=(Gq Js (LD p_s 0)))))) else j2 (c1 && true))) (λj1=>
  if(Hd (p_s.size:Int) 1 40) then Option.bind (Wg p_s Hx) (λr1=>
  j1 ((Hd (p_s.size:Int) 1 40) && (decide (r1=Ff)))) else j1 ((Hd (p_s.size:Int) 1 40) && true))
def Xh(p_r:Fp):Option Int:=
  Option.bind (CS p_r.Key) (λr1=>
  if !r1 then
  some 5
  else
  if((!(Hd p_r.Stroke 1 5))||(!(Hd p_r.Sex 0 2))) then
  some 4
  else
  Fq (fun(x1:Bool)=>
  if x1 then
  some 1
  else
  Chk (!decide (p_r.Course=0)) (
  if !decide ((Int.tmod p_r.Metres p_r.Course)=0) then
  some 3
  else
  Fq (fun(c1:Bool)=>
  if c1 then
  some 16
  else
  some 0) (λj5=>
  if(decide (p_r.Stroke=5)) then Fq (fun(c2:Bool)=>
  j5 ((decide (p_r.Stroke=5)) && (c2||((decide (1<p_r.Legs)) && (!decide (p_r.Legs=4)))))) (λj6=>
  if(decide (p_r.Legs=1)) then Chk (!decide ((W (4*p_r.Course))=0)) (
  j6 ((decide (p_r.Legs=1)) && (!decide ((Int.tmod p_r.Metres (W (4*p_r.Course)))=0)))) else j6 ((decide (p_r.Legs=1)) && true)) else j5 ((decide (p_r.Stroke=5)) && true)))) (λj1=>
  if((!decide (p_r.Course=25)) && (!decide (p_r.Course=50))) then
  j1 ((!decide (p_r.Course=25)) && (!decide (p_r.Course=50)))
  else
  Fq (fun(x2:Bool)=>
  j1 x2) (λj2=>
  if !(Hd p_r.Legs 1 4) then
  j2 (!(Hd p_r.Legs 1 4))
  else
  Fq (fun(x3:Bool)=>
  j2 x3) (λj3=>
  if !(Hd p_r.Metres 25 1500) then
  j3 (!(Hd p_r.Metres 25 1500))
  else
  Fq (fun(x4:Bool)=>
  j3 x4) (λj4=>
  if !(Hd p_r.Young 0 p_r.Old) then
  j4 (!(Hd p_r.Young 0 p_r.Old))
  else
  j4 (decide (120<p_r.Old)))))))
def Ml(p_key:ByteArray)(j1:(Fp×Bool)):List Fp->Nat->(Fp×Bool)
  |[],_=>j1
  |y1::ys1,i1=>if decide (y1.Key=p_key) then
  (y1,true)
  else
  Ml p_key j1 ys1 (i1+1)
def Ju(p_l:List Fp)(p_key:ByteArray):(Fp×Bool):=
  Fq (((Fp.mk Ff 0 0 0 0 0 0 0),false)) (λj1=>
  Ml p_key j1 p_l 0)
def Ik(p_n:Int)(p_low:Int)(p_high:Int):Bool:=
  ((decide (p_low<=p_n)) && (decide (p_n<=p_high)))
def Qc(p_t:Il)(j1:Option Int):List Int->Nat->Option Int
  |[],_=>j1
  |y1::ys1,i1=>if !(Ik y1 0 10000) then
  some 1
  else
  Fq (fun(c1:Bool)=>
  if c1 then
  some 7
  else
  Qc p_t j1 ys1 (i1+1)) (λj2=>
  if(decide (0<(i1:Int))) then Chk (inB (W ((i1:Int)-1)) p_t.Points.length) (
  j2 ((decide (0<(i1:Int))) && (decide ((nth p_t.Points (W ((i1:Int)-1)))<y1)))) else j2 ((decide (0<(i1:Int))) && true))
def Vz(p_t:Il):Option Int:=
  if decide (40<(p_t.Points.length:Int)) then
  some 2
  else
  Fq (if((!(Ik p_t.Relay 1 10))||(!(Ik p_t.Most 0 10))) then
  some 1
  else
  some 0) (λj1=>
  Qc p_t j1 p_t.Points 0)
def Te(p_f:Mp):Int:=
  if(((!(Hd p_f.Size 1 10))||(!(Hd p_f.Many 1 5)))||(!(Hd p_f.Reserves 0 10))) then
  1
  else
  0
def Oj(p_p:Ge)(j1:Option Int):List Fp->Nat->Option Int
  |[],_=>j1
  |y1::ys1,i1=>Option.bind (Xh y1) (λr1=>
  if !decide (r1=0) then
  some r1
  else
  Fq (if(Ju (cut p_p.Races 0 (i1:Int)) y1.Key).2 then
  some 6
  else
  Oj p_p j1 ys1 (i1+1)) (λj2=>
  Chk (Tv 0 (i1:Int) p_p.Races.length) (
  j2)))
def Rv(p_p:Ge):Option Int:=
  if decide (100<(p_p.Races.length:Int)) then
  some 2
  else
  Fq (Option.bind (Vz p_p.Table) (λr2=>
  if !decide (r2=0) then
  some r2
  else
  some (Te p_p.Final))) (λj1=>
  Oj p_p j1 p_p.Races 0)
def Nk(p_p:Gf):Int:=
  if((((!(Hd p_p.Low 1 p_p.High))||(decide (10<p_p.High)))||(!(Hd p_p.Least 1 (W ((W (p_p.High-p_p.Low))+1)))))||(!(Hd p_p.Circles 1 10))) then
  1
  else
  0
def Ug(p_s:ByteArray)(p_some:ByteArray)(j1:Option Bool):Nat->Int->Option Bool
  |0,_=>none
  |m1+1,x1=>if decide (x1<(p_s.size:Int)) then
  Chk (inB x1 p_s.size) (
  if decide ((Gq p_some (LD p_s x1))<0) then
  some false
  else
  Ug p_s p_some j1 m1 (W (x1+1)))
  else
  j1
def Yu(p_s:ByteArray)(p_some:ByteArray):Option Bool:=
  Fq (some true) (λj1=>
  Ug p_s p_some j1 (((p_s.size:Int)-0).toNat+2) 0)
def Lu(p_s:ByteArray):Option Bool:=
  Fq (fun(c1:Bool)=>
  Fq (fun(c2:Bool)=>
  some c2) (λj2=>
  if c1 then Option.bind (Yu p_s Hx) (λr2=>
  j2 (c1 && r2)) else j2 (c1 && true))) (λj1=>
  if(Ik (p_s.size:Int) 1 40) then Chk (Tv 0 1 p_s.size) (
  Option.bind (Yu (KY p_s 0 1) Js) (λr1=>
  j1 ((Ik (p_s.size:Int) 1 40) && r1))) else j1 ((Ik (p_s.size:Int) 1 40) && true))
def Me(p_at:Int):Bool:=
  (Ik p_at 0 345686399999)
def Xi(p_d:An):Option Int:=
  Option.bind (Lu p_d.Site) (λr1=>
  if !r1 then
  some 5
  else
  if((!(Ik p_d.No 1 1000000))||(!(Me p_d.At))) then
  some 1
  else
  if !(Ik p_d.Kind 1 4) then
  some 4
  else
  Fq (fun(x1:ByteArray) (x2:ByteArray) (x3:ByteArray) (x4:Int)=>
  Fq (fun(x5:ByteArray)=>
  Fq (fun(x6:Int)=>
  Fq (fun(x7:Int)=>
  if !decide (p_d=(An.mk p_d.Site p_d.No p_d.At p_d.Kind x1 x5 x2 x6 x7 x3 x4)) then
  some 3
  else
  some 0) (λj7=>
  if decide (p_d.Kind=3) then
  if !(Ik p_d.Fault 0 8) then
  some 1
  else
  j7 p_d.Fault
  else
  j7 0)) (λj6=>
  if((decide (p_d.Kind=1))||(decide (p_d.Kind=3))) then
  if !(Ik p_d.Time 0 360000) then
  some 1
  else
  j6 p_d.Time
  else
  j6 0)) (λj5=>
  if decide (p_d.Kind=1) then
  j5 p_d.Club
  else
  j5 Ff)) (λj1=>
  if decide (p_d.Kind=4) then
  Option.bind (Lu p_d.Of) (λr2=>
  if !r2 then
  some 5
  else
  if !(Ik p_d.Other 1 1000000) then
  some 1
  else
  j1 Ff Ff p_d.Of p_d.Other)
  else
  Option.bind (Lu p_d.Who) (λr3=>
  Fq (fun(c1:Bool)=>
  Fq (fun(c2:Bool)=>
  if c2 then
  some 5
  else
  j1 p_d.Who p_d.Race Ff 0) (λj3=>
  if c1 then j3 (c1||true) else Fq (fun(c3:Bool)=>
  j3 (c1||c3)) (λj4=>
  if((decide (p_d.Kind=1)) && (!decide (p_d.Club=Ff))) then Option.bind (Lu p_d.Club) (λr5=>
  j4 (((decide (p_d.Kind=1)) && (!decide (p_d.Club=Ff))) && (!r5))) else j4 (((decide (p_d.Kind=1)) && (!decide (p_d.Club=Ff))) && true)))) (λj2=>
  if(!r3) then j2 ((!r3)||true) else Option.bind (Lu p_d.Race) (λr4=>
  j2 ((!r3)||(!r4)))))))
def EA(p_a:An)(p_b:An):Bool:=
  ((decide (p_a.Site=p_b.Site)) && (decide (p_a.No=p_b.No)))
def Sz(p_o:An)(p_a1:An):Bool:=
  (EA p_o p_a1)
def Gu(p_f_0:An)(j1:Int):List An->Nat->Int
  |[],_=>j1
  |y1::ys1,i1=>if(Sz y1 p_f_0) then
  (i1:Int)
  else
  Gu p_f_0 j1 ys1 (i1+1)
def My(p_s:List An)(p_f_0:An):Int:=
  Fq ((-1)) (λj1=>
  Gu p_f_0 j1 p_s 0)
def Jw(p_s:List An)(p_f_0:An):Bool:=
  decide (0<=(My p_s p_f_0))
def Kz(p_l:List An)(j1:Option Int):List An->Nat->Option Int
  |[],_=>j1
  |y1::ys1,i1=>Option.bind (Xi y1) (λr1=>
  if !decide (r1=0) then
  some r1
  else
  Fq (fun(x1:Bool)=>
  if x1 then
  some 7
  else
  Kz p_l j1 ys1 (i1+1)) (λj2=>
  if decide (0<(i1:Int)) then
  Chk (inB (W ((i1:Int)-1)) p_l.length) (
  j2 (decide (0<=(Rr (nth p_l (W ((i1:Int)-1))) y1))))
  else
  j2 false))
def Nl(p_l:List An)(j3:Option Int):List An->Nat->Option Int
  |[],_=>j3
  |y2::ys2,i2=>Chk (Tv 0 (i2:Int) p_l.length) (
  if(Jw (cut p_l 0 (i2:Int)) y2) then
  some 6
  else
  Nl p_l j3 ys2 (i2+1))
def Ql(p_l:List An):Option Int:=
  if decide (2000<(p_l.length:Int)) then
  some 2
  else
  Fq (Fq (some 0) (λj3=>
  Nl p_l j3 p_l 0)) (λj1=>
  Kz p_l j1 p_l 0)
def Qd(j1:Int):List Int->Nat->Int
  |[],_=>j1
  |y1::ys1,i1=>if !decide (y1=0) then
  y1
  else
  Qd j1 ys1 (i1+1)
def Nz(p_l:List Int):Int:=
  Fq (0) (λj1=>
  Qd j1 p_l 0)
def JE(p_p:Ge)(p_l:List An)(p_race:ByteArray)(p_at:Int):Option ((List Fi)×Int):=
  Option.bind (Ye p_p p_l p_race p_at) (λr1=>
  if !decide (r1.2.2=0) then
  some (([]:List Fi),r1.2.2)
  else
  Option.bind (r1.1) (λr2=>
  Option.bind (BY r2.p_ r2.deeds_ p_race) (λr3=>
  some (r3,0))))
def CT:Option Bool:=
  Option.bind (JE (Ge.mk ([(Fp.mk k_r 50 1 50 1 0 0 0)]:List Fp) (Il.mk ([]:List Int) 1 0) (Mp.mk 1 1 0)) [(An.mk k_s 1 0 1 k_a Ff k_r 5 0 Ff 0)] k_r 0) (λr1=>
  Fq (fun(c1:Bool)=>
  some c1) (λj1=>
  if((decide (r1.2=0)) && (decide ((r1.1.length:Int)=1))) then Chk (inB 0 r1.1.length) (
  j1 (((decide (r1.2=0)) && (decide ((r1.1.length:Int)=1))) && (decide (((nth r1.1 0).Time)=5)))) else j1 (((decide (r1.2=0)) && (decide ((r1.1.length:Int)=1))) && true)))
def AG(p_s:ByteArray)(p_suffix:ByteArray):Option ByteArray:=
  Option.bind (Tp p_s p_suffix) (λr1=>
  if r1 then
  Chk (Tv 0 (W ((p_s.size:Int)-(p_suffix.size:Int))) p_s.size) (
  some (KY p_s 0 (W ((p_s.size:Int)-(p_suffix.size:Int)))))
  else
  some p_s)
def Jm(p_s:ByteArray)(p_suffix:ByteArray):Option ByteArray:=
  Option.bind (AG p_s p_suffix) (λr1=>
  some r1)
def Wj(p_v:ByteArray)(j1:Int):List ByteArray->Nat->Int
  |[],_=>j1
  |y1::ys1,i1=>if decide (p_v=y1) then
  (i1:Int)
  else
  Wj p_v j1 ys1 (i1+1)
def DI(p_s:List ByteArray)(p_v:ByteArray):Int:=
  Fq ((-1)) (λj1=>
  Wj p_v j1 p_s 0)
def AH(p_s:List ByteArray)(p_v:ByteArray):Bool:=
  decide (0<=(DI p_s p_v))
def Ke(p_line:ByteArray):Option ((List ByteArray)×Bool):=
  Option.bind (GY p_line Gy) (λr1=>
  some (r1,!(AH r1 Ff)))
def Jd(p_a1:List An)(p_i:Int)(self:Int->(List An)->Option Bool)(j1:Option Bool):Nat->Int->Option Bool
  |0,_=>none
  |m1+1,x1=>if decide (x1<(p_a1.length:Int)) then
  Fq (fun(x2:Bool)=>
  if x2 then
  some false
  else
  Jd p_a1 p_i self j1 m1 (W (x1+1))) (λj2=>
  Chk (inB x1 p_a1.length) (
  if decide (((nth p_a1 x1).Kind)=4) then
  Chk (inB x1 p_a1.length) (
  Chk (inB p_i p_a1.length) (
  if decide (((nth p_a1 x1).Of)=((nth p_a1 p_i).Site)) then
  Chk (inB x1 p_a1.length) (
  Chk (inB p_i p_a1.length) (
  if decide (((nth p_a1 x1).Other)=((nth p_a1 p_i).No)) then
  Option.bind (self x1 p_a1) (λr1=>
  j2 r1)
  else
  Chk (inB x1 p_a1.length) (
  Chk (inB x1 p_a1.length) (
  Chk (inB p_i p_a1.length) (
  Chk (inB x1 p_a1.length) (
  Chk (inB p_i p_a1.length) (
  j2 false)))))))
  else
  Chk (inB x1 p_a1.length) (
  Chk (inB x1 p_a1.length) (
  Chk (inB p_i p_a1.length) (
  j2 false)))))
  else
  Chk (inB x1 p_a1.length) (
  j2 false)))
  else
  j1
def Rh(self:Int->(List An)->Option Bool)(p_i:Int)(p_a1:List An):Option Bool:=
  Fq (some true) (λj1=>
  Jd p_a1 p_i self j1 (((p_a1.length:Int)-(W (p_i+1))).toNat+2) (W (p_i+1)))
def La:Nat->Int->(List An)->Option Bool
  |0,_,_=>none
  |m+1,p_i,p_a1=>Rh (La m) p_i p_a1
def Nm(p_at:Int)(j1:(List An)->Option (List Int)):List An->Nat->(List An)->Option (List Int)
  |[],_,x1=>j1 x1
  |y1::ys1,i1,x1=>Fq (fun(x2:List An)=>
  Nm p_at j1 ys1 (i1+1) x2) (λj2=>
  Fq (fun(x3:List An)=>
  j2 x3) (λj3=>
  if decide (y1.At<=p_at) then
  Chk (Ja x1.length) (
  j3 (x1++[y1]))
  else
  j3 x1))
def Kb(x1:List An)(j4:(List Int)->Option (List Int)):Nat->(List Int)->Int->Option (List Int)
  |0,_,_=>none
  |m1+1,x4,x5=>if decide (x5<(x1.length:Int)) then
  Fq (fun(x6:List Int)=>
  Kb x1 j4 m1 x6 (W (x5+1))) (λj5=>
  Option.bind (La 16 x5 x1) (λr1=>
  Fq (fun(x7:List Int)=>
  j5 x7) (λj6=>
  if r1 then
  Chk (Ja x4.length) (
  j6 (x4++[x5]))
  else
  j6 x4)))
  else
  j4 x4
def Qm(p_l:List An)(p_at:Int):Option (List Int):=
  Fq (fun(x1:List An)=>
  Fq (fun(x4:List Int)=>
  some x4) (λj4=>
  Kb x1 j4 (((x1.length:Int)-0).toNat+2) ([]:List Int) 0)) (λj1=>
  Nm p_at j1 p_l 0 ([]:List An))
def Ta(p_l:List An)(j1:(List An)->Option (List An)):List Int->Nat->(List An)->Option (List An)
  |[],_,x1=>j1 x1
  |y1::ys1,i1,x1=>Chk (inB y1 p_l.length) (
  Chk (Ja x1.length) (
  Ta p_l j1 ys1 (i1+1) (x1++[(nth p_l y1)])))
def Zo(p_l:List An)(p_at:Int):Option (List An):=
  Option.bind (Qm p_l p_at) (λr1=>
  Fq (fun(x1:List An)=>
  some x1) (λj1=>
  Ta p_l j1 r1 0 ([]:List An)))
def Jq(p_o:An)(p_a1:ByteArray)(p_a2:An):Bool:=
  (((decide (p_o.Race=p_a1)) && (decide (p_o.Who=p_a2.Who))) && ((decide (p_o.Kind=1))||(decide (p_o.Kind=2))))
def Hz(p_f_0:ByteArray)(p_f_1:An)(j1:Int):List An->Nat->Int
  |[],_=>j1
  |y1::ys1,i1=>if(Jq y1 p_f_0 p_f_1) then
  (i1:Int)
  else
  Hz p_f_0 p_f_1 j1 ys1 (i1+1)
def Ln(p_s:List An)(p_f_0:ByteArray)(p_f_1:An):Int:=
  Fq ((-1)) (λj1=>
  Hz p_f_0 p_f_1 j1 p_s 0)
def Jh(p_s:List An)(p_f_0:ByteArray)(p_f_1:An):Bool:=
  decide (0<=(Ln p_s p_f_0 p_f_1))
def Yz(p_a:An)(p_b:An):Int:=
  (Ic p_a.Who p_b.Who)
open Classical in
def Iy(p_x:List An):Option (List An):=if HC Yz p_x/\p_x.length<4611686018427387904 then some (Nc Yz p_x) else none
def Qn(r1:(List An))(p_race:ByteArray)(j1:(List An)->Option (List An)):List An->Nat->(List An)->Option (List An)
  |[],_,x1=>j1 x1
  |y1::ys1,i1,x1=>Fq (fun(x2:List An)=>
  Qn r1 p_race j1 ys1 (i1+1) x2) (λj2=>
  Chk (Tv (W ((i1:Int)+1)) (r1.length:Int) r1.length) (
  Fq (fun(x3:List An)=>
  j2 x3) (λj3=>
  if(((decide (y1.Kind=1)) && (decide (y1.Race=p_race))) && (!(Jh (cut r1 (W ((i1:Int)+1)) r1.length) p_race y1))) then
  Chk (Ja x1.length) (
  j3 (x1++[y1]))
  else
  j3 x1)))
def Oa(p_l:List An)(p_race:ByteArray)(p_at:Int):Option (List An):=
  Option.bind (Zo p_l p_at) (λr1=>
  Fq (fun(x1:List An)=>
  Option.bind (Iy x1) (λr2=>
  some r2)) (λj1=>
  Qn r1 p_race j1 r1 0 ([]:List An)))
def Jn(p_p:Ge)(p_l:List An)(p_race:ByteArray)(p_at:Int):Option Int:=
  if !((Ju p_p.Races p_race).2) then
  some 8
  else
  Option.bind (Oa p_l p_race p_at) (λr1=>
  if decide (300<(r1.length:Int)) then
  some 2
  else
  some 0)
def Pi(p_p:Ge)(p_l:List An)(p_at:Int)(j1:Option Int):List Fp->Nat->Option Int
  |[],_=>j1
  |y1::ys1,i1=>Option.bind (Jn p_p p_l y1.Key p_at) (λr1=>
  if !decide (r1=0) then
  some r1
  else
  Pi p_p p_l p_at j1 ys1 (i1+1))
def Kn(p_p:Ge)(p_l:List An)(p_at:Int):Option Int:=
  Fq (some 0) (λj1=>
  Pi p_p p_l p_at j1 p_p.Races 0)
def Zp(d:An)(race who:ByteArray):Bool:=((decide (d.Kind=3)) && (decide (d.Race=race))) && (decide (d.Who=who))
  def Uh (l:List An) (race who:ByteArray):List Nat->An×Bool
  |[]=>((An.mk Ff 0 0 0 Ff Ff Ff 0 0 Ff 0),false)
  |i::is=>if Zp (nth l (i:Int)) race who then(nth l (i:Int),true) else Uh l race who is
def BC(l:List An)(race who:ByteArray)(at_:Int):Option (An×Bool):=
  Option.bind (Zo l at_) λf=>some (Uh f race who (FW f.length))
def Gp(p_x:Fo):Bool:=
  ((decide (0<p_x.Time)) && (decide (p_x.Fault=0)))
def Uy(p_a:Fo)(p_b:Fo):Int:=
  if !decide ((Gp p_a)=(Gp p_b)) then
  if(Gp p_a) then
  (-1)
  else
  1
  else
  (Rf (W (p_a.Rank-p_b.Rank)))
def Gi(p_a:Int)(j2:(List Fo)->Option (List Fo)):Nat->(List Fo)->Int->Option (List Fo)
  |0,_,_=>none
  |m2+1,x3,x4=>Fq (fun(x5:Bool)=>
  if x5 then
  Chk (inB (W (x4-1)) x3.length) (
  Chk (inB x4 x3.length) (
  Chk (inB x4 x3.length) (
  Chk (inB (W (x4-1)) (x3.set x4.toNat (Fo.mk ((nth x3 (W (x4-1))).Rank) ((nth x3 (W (x4-1))).Who) ((nth x3 (W (x4-1))).Club) ((nth x3 (W (x4-1))).Time) ((nth x3 (W (x4-1))).Fault) ((nth x3 (W (x4-1))).Points))).length) (
  Gi p_a j2 m2 ((x3.set x4.toNat (Fo.mk ((nth x3 (W (x4-1))).Rank) ((nth x3 (W (x4-1))).Who) ((nth x3 (W (x4-1))).Club) ((nth x3 (W (x4-1))).Time) ((nth x3 (W (x4-1))).Fault) ((nth x3 (W (x4-1))).Points))).set ((W (x4-1)).toNat) (Fo.mk ((nth x3 x4).Rank) ((nth x3 x4).Who) ((nth x3 x4).Club) ((nth x3 x4).Time) ((nth x3 x4).Fault) ((nth x3 x4).Points))) (W (x4-1))))))
  else
  j2 x3) (λj3=>
  if decide (p_a<x4) then
  Chk (inB x4 x3.length) (
  Chk (inB (W (x4-1)) x3.length) (
  j3 (decide ((Uy (Fo.mk ((nth x3 x4).Rank) ((nth x3 x4).Who) ((nth x3 x4).Club) ((nth x3 x4).Time) ((nth x3 x4).Fault) ((nth x3 x4).Points)) (Fo.mk ((nth x3 (W (x4-1))).Rank) ((nth x3 (W (x4-1))).Who) ((nth x3 (W (x4-1))).Club) ((nth x3 (W (x4-1))).Time) ((nth x3 (W (x4-1))).Fault) ((nth x3 (W (x4-1))).Points)))<0))))
  else
  j3 false)
def Hi(p_b:Int)(p_a:Int)(j1:(List Fo)->Option (List Fo)):Nat->(List Fo)->Int->Option (List Fo)
  |0,_,_=>none
  |m1+1,x1,x2=>if decide (x2<p_b) then
  Fq (fun(x3:List Fo)=>
  Hi p_b p_a j1 m1 x3 (W (x2+1))) (λj2=>
  Gi p_a j2 ((x2-p_a).toNat+2) x1 x2)
  else
  j1 x1
def Gw(p_data:List Fo)(p_a:Int)(p_b:Int):Option (List Fo):=
  Fq (fun(x1:List Fo)=>
  some x1) (λj1=>
  Hi p_b p_a j1 ((p_b-(W (p_a+1))).toNat+2) p_data (W (p_a+1)))
def Ig(p_n:Int)(j1:(List Fo)->Int->Option (List Fo)):Nat->(List Fo)->Int->Int->Option (List Fo)
  |0,_,_,_=>none
  |m1+1,x1,x2,x3=>if decide (x3<=p_n) then
  Option.bind (Gw x1 x2 x3) (λr1=>
  Ig p_n j1 m1 r1 x3 (W (x3+20)))
  else
  j1 x1 x2
def Ma(p_n:Int)(j3:Int->Option (List Fo)):Nat->Int->Int->Option (List Fo)
  |0,_,_=>none
  |_+1,x5,x6=>if decide (x6<=p_n) then
  none
  else
  j3 x5
def Ih(p_n:Int)(j2:Option (List Fo)):Nat->Int->Option (List Fo)
  |0,_=>none
  |m2+1,x4=>if decide (x4<p_n) then
  Fq (fun(x5:Int)=>
  if decide ((W (x5+x4))<p_n) then
  none
  else
  Ih p_n j2 m2 (W (x4*2))) (λj3=>
  Ma p_n j3 ((p_n-(W (2*x4))).toNat+2) 0 (W (2*x4)))
  else
  j2
def Kc(p_data:List Fo)(p_n:Int):Option (List Fo):=
  Fq (fun(x1:List Fo) (x2:Int)=>
  Option.bind (Gw x1 x2 p_n) (λr2=>
  Fq (some r2) (λj2=>
  Ih p_n j2 ((p_n-20).toNat+2) 20))) (λj1=>
  Ig p_n j1 ((p_n-20).toNat+2) p_data 0 20)
def Ho(p_x:List Fo):Option (List Fo):=
  Option.bind (Kc p_x (p_x.length:Int)) (λr1=>
  some r1)
def Pj(p_l:List An)(p_race:ByteArray)(p_at:Int)(j1:(List Fo)->Option (List Fo)):List An->Nat->(List Fo)->Option (List Fo)
  |[],_,x1=>j1 x1
  |y1::ys1,i1,x1=>Fq (fun(x2:List Fo)=>
  Pj p_l p_race p_at j1 ys1 (i1+1) x2) (λj2=>
  Option.bind (BC p_l p_race y1.Who p_at) (λr2=>
  Fq (fun(x3:List Fo)=>
  j2 x3) (λj3=>
  if r2.2 then
  Chk (Ja x1.length) (
  j3 (x1++[(Fo.mk 0 y1.Who y1.Club r2.1.Time r2.1.Fault (Fh.mk 0 1))]))
  else
  j3 x1)))
def Pk(x4:List Fo)(i2:Nat)(j6:(List Fo)->Option (List Fo)):List Fo->Nat->(List Fo)->Option (List Fo)
  |[],_,x6=>j6 x6
  |_::ys3,i3,x6=>Fq (fun(x7:List Fo)=>
  Pk x4 i2 j6 ys3 (i3+1) x7) (λj7=>
  Chk (inB (i3:Int) x6.length) (
  Fq (fun(x8:List Fo)=>
  j7 x8) (λj8=>
  if((Gp (Fo.mk ((nth x6 (i3:Int)).Rank) ((nth x6 (i3:Int)).Who) ((nth x6 (i3:Int)).Club) ((nth x6 (i3:Int)).Time) ((nth x6 (i3:Int)).Fault) ((nth x6 (i3:Int)).Points))) && (decide (((nth x6 (i3:Int)).Time)<((nth x4 (i2:Int)).Time)))) then
  Chk (inB (i2:Int) x6.length) (
  Chk (inB (i2:Int) x6.length) (
  j8 (x6.set ((i2:Int).toNat) (Fo.mk (W (((nth x6 (i2:Int)).Rank)+1)) ((nth x6 (i2:Int)).Who) ((nth x6 (i2:Int)).Club) ((nth x6 (i2:Int)).Time) ((nth x6 (i2:Int)).Fault) ((nth x6 (i2:Int)).Points)))))
  else
  j8 x6)))
def Nf(j4:(List Fo)->Option (List Fo)):List Fo->Nat->(List Fo)->Option (List Fo)
  |[],_,x4=>j4 x4
  |_::ys2,i2,x4=>Fq (fun(x5:List Fo)=>
  Nf j4 ys2 (i2+1) x5) (λj5=>
  Chk (inB (i2:Int) x4.length) (
  if !(Gp (Fo.mk ((nth x4 (i2:Int)).Rank) ((nth x4 (i2:Int)).Who) ((nth x4 (i2:Int)).Club) ((nth x4 (i2:Int)).Time) ((nth x4 (i2:Int)).Fault) ((nth x4 (i2:Int)).Points))) then
  j5 x4
  else
  Chk (inB (i2:Int) x4.length) (
  Fq (fun(x6:List Fo)=>
  j5 x6) (λj6=>
  Pk x4 i2 j6 (x4.set ((i2:Int).toNat) (Fo.mk 1 ((nth x4 (i2:Int)).Who) ((nth x4 (i2:Int)).Club) ((nth x4 (i2:Int)).Time) ((nth x4 (i2:Int)).Fault) ((nth x4 (i2:Int)).Points))) 0 (x4.set ((i2:Int).toNat) (Fo.mk 1 ((nth x4 (i2:Int)).Who) ((nth x4 (i2:Int)).Club) ((nth x4 (i2:Int)).Time) ((nth x4 (i2:Int)).Fault) ((nth x4 (i2:Int)).Points)))))))
def Ym(_:Ge)(p_l:List An)(p_race:ByteArray)(p_at:Int):Option (List Fo):=
  Option.bind (Oa p_l p_race p_at) (λr1=>
  Fq (fun(x1:List Fo)=>
  Fq (fun(x4:List Fo)=>
  Option.bind (Ho x4) (λr3=>
  some r3)) (λj4=>
  Nf j4 x1 0 x1)) (λj1=>
  Pj p_l p_race p_at j1 r1 0 ([]:List Fo)))
def Lx(p_s:Fd):Int:=
  if decide (p_s.Rank=0) then
  301
  else
  p_s.Rank
def Ng(p_a:Fd)(p_b:Fd):Int:=
  if !decide (p_a.Race=p_b.Race) then
  (Ic p_a.Race p_b.Race)
  else
  if !decide ((Lx p_a)=(Lx p_b)) then
  (Rf (W ((Lx p_a)-(Lx p_b))))
  else
  (Ic p_a.Who p_b.Who)
def Gc(p_l:List Fd)(j1:Option Int):List Fd->Nat->Option Int
  |[],_=>j1
  |y1::ys1,i1=>Option.bind (Lu y1.Race) (λr1=>
  Fq (fun(c1:Bool)=>
  Fq (fun(c2:Bool)=>
  if c2 then
  some 5
  else
  if !(Ik y1.Rank 0 300) then
  some 1
  else
  Fq (fun(x1:Bool)=>
  if x1 then
  some 7
  else
  Gc p_l j1 ys1 (i1+1)) (λj5=>
  if decide (0<(i1:Int)) then
  Chk (inB (W ((i1:Int)-1)) p_l.length) (
  j5 (decide (0<=(Ng (nth p_l (W ((i1:Int)-1))) y1))))
  else
  j5 false)) (λj3=>
  if c1 then j3 (c1||true) else Fq (fun(c3:Bool)=>
  j3 (c1||c3)) (λj4=>
  if(!decide (y1.Club=Ff)) then Option.bind (Lu y1.Club) (λr3=>
  j4 ((!decide (y1.Club=Ff)) && (!r3))) else j4 ((!decide (y1.Club=Ff)) && true)))) (λj2=>
  if(!r1) then j2 ((!r1)||true) else Option.bind (Lu y1.Who) (λr2=>
  j2 ((!r1)||(!r2)))))
def Ly(y2:Fd)(i2:Nat)(j7:Bool->Bool->Int->Int->Option Int):List Fd->Nat->Bool->Bool->Int->Int->Option Int
  |[],_,x6,x7,x8,x9=>j7 x6 x7 x8 x9
  |y3::ys3,i3,x6,x7,x8,x9=>Fq (fun(x10:Bool) (x11:Bool) (x12:Int) (x13:Int)=>
  Ly y2 i2 j7 ys3 (i3+1) x10 x11 x12 x13) (λj8=>
  if !decide (y3.Race=y2.Race) then
  j8 x6 x7 x8 x9
  else
  Fq (fun(x14:Int)=>
  Fq (fun(x15:Int)=>
  j8 (x6||((!decide ((i3:Int)=(i2:Int))) && (decide (y3.Who=y2.Who)))) (x7||(!decide (y3.Relay=y2.Relay))) x14 x15) (λj10=>
  if decide (y3.Rank=y2.Rank) then
  j10 (W (x9+1))
  else
  j10 x9)) (λj9=>
  if((decide (0<y3.Rank)) && (decide (y3.Rank<y2.Rank))) then
  j9 (W (x8+1))
  else
  j9 x8))
def Lz(p_l:List Fd)(j6:Bool->Bool->Bool->Bool->Option Int):List Fd->Nat->Bool->Bool->Bool->Bool->Option Int
  |[],_,x2,x3,x4,x5=>j6 x2 x3 x4 x5
  |y2::ys2,i2,x2,x3,x4,x5=>Fq (fun(x6:Bool) (x7:Bool) (x8:Int) (x9:Int)=>
  Lz p_l j6 ys2 (i2+1) x6 x7 (x4||((decide (0<y2.Rank)) && (!decide (y2.Rank=(W (x8+1)))))) (x5||((decide (0<y2.Rank)) && (decide (10<x9))))) (λj7=>
  Ly y2 i2 j7 p_l 0 x2 x3 0 0)
def Oz(j11:Option Int):List Lf->Nat->Option Int
  |[],_=>j11
  |y4::ys4,i4=>if y4.is_ then
  some y4.e_
  else
  Oz j11 ys4 (i4+1)
def Kf(p_l:List Fd):Option Int:=
  if decide (2000<(p_l.length:Int)) then
  some 2
  else
  Fq (Fq (fun(x2:Bool) (x3:Bool) (x4:Bool) (x5:Bool)=>
  Fq (some 0) (λj11=>
  Oz j11 ([(Lf.mk x2 6),(Lf.mk x3 3),(Lf.mk x4 16),(Lf.mk x5 12)]:List Lf) 0)) (λj6=>
  Lz p_l j6 p_l 0 false false false false)) (λj1=>
  Gc p_l j1 p_l 0)
def Gg(p_s:Fd):Bool:=
  ((decide (0<p_s.Rank)) && (!decide (p_s.Club=Ff)))
def Nn(p_v:Fd)(j1:Int):List Fd->Nat->Int
  |[],_=>j1
  |y1::ys1,i1=>if decide (p_v=y1) then
  (i1:Int)
  else
  Nn p_v j1 ys1 (i1+1)
def Za(p_s:List Fd)(p_v:Fd):Int:=
  Fq ((-1)) (λj1=>
  Nn p_v j1 p_s 0)
def Qe(p_s:List Fd)(p_v:Fd):Bool:=
  decide (0<=(Za p_s p_v))
def Ui(j1:Int->Option Fh):Nat->Int->Int->Option Fh
  |0,_,_=>none
  |m1+1,x1,x2=>if !decide (x2=0) then
  Chk (!decide (x2=0)) (
  Ui j1 m1 x2 (Int.tmod x1 x2))
  else
  j1 x1
def Pw(p_num:Int)(p_den:Int):Option Fh:=
  Fq (fun(x1:Int)=>
  Fq (fun(x3:Int)=>
  Chk (!decide (x3=0)) (
  Chk (!decide (x3=0)) (
  some (Fh.mk (W (Int.tdiv p_num x3)) (W (Int.tdiv p_den x3)))))) (λj2=>
  if decide (x1<0) then
  j2 (W (0-x1))
  else
  j2 x1)) (λj1=>
  Ui j1 4611686018427387904 p_num p_den)
def Gx(p_x:Fd)(p_t:Il)(j1:(List (ByteArray×Int))->(List Fd)->Option Fh):List Fd->Nat->(List (ByteArray×Int))->(List Fd)->Option Fh
  |[],_,x1,x2=>j1 x1 x2
  |y1::ys1,i1,x1,x2=>Fq (fun(x3:List (ByteArray×Int)) (x4:List Fd)=>
  Gx p_x p_t j1 ys1 (i1+1) x3 x4) (λj2=>
  if(((!decide (y1.Race=p_x.Race))||(decide (y1.Rank=0)))||(decide (y1.Club=Ff))) then
  j2 x1 x2
  else
  Fq (fun(x5:List Fd)=>
  j2 (Iv x1 y1.Club (W ((Gm x1 y1.Club 0)+1))) x5) (λj3=>
  if((decide (p_t.Most=0))||(decide ((Gm (Iv x1 y1.Club (W ((Gm x1 y1.Club 0)+1))) y1.Club 0)<=p_t.Most))) then
  Chk (Ja x2.length) (
  j3 (x2++[y1]))
  else
  j3 x2))
def Oe(p_x:Fd)(p_t:Il)(j4:Int->Int->Option Fh):List Fd->Nat->Int->Int->Option Fh
  |[],_,x6,x7=>j4 x6 x7
  |y2::ys2,i2,x6,x7=>Fq (fun(x8:Int) (x9:Int)=>
  Oe p_x p_t j4 ys2 (i2+1) x8 x9) (λj5=>
  Fq (fun(x10:Int) (x11:Int)=>
  j5 x10 x11) (λj6=>
  if decide (y2.Rank=p_x.Rank) then
  Fq (fun(x12:Int)=>
  j6 x12 (W (x7+1))) (λj7=>
  if decide ((i2:Int)<(p_t.Points.length:Int)) then
  Chk (inB (i2:Int) p_t.Points.length) (
  j7 (W (x6+(nth p_t.Points (i2:Int)))))
  else
  j7 x6)
  else
  j6 x6 x7))
def Mz(p_t:Il)(p_l:List Fd)(p_x:Fd):Option Fh:=
  Fq (fun(_:List (ByteArray×Int)) (x2:List Fd)=>
  if !(Qe x2 p_x) then
  some (Fh.mk 0 1)
  else
  Fq (fun(x6:Int) (x7:Int)=>
  Fq (fun(x13:Int)=>
  Option.bind (Pw x13 x7) (λr1=>
  some r1)) (λj8=>
  if p_x.Relay then
  j8 (W (x6*p_t.Relay))
  else
  j8 x6)) (λj4=>
  Oe p_x p_t j4 x2 0 0 0)) (λj1=>
  Gx p_x p_t j1 p_l 0 ([]:List (ByteArray×Int)) ([]:List Fd))
def Ok(p_race:ByteArray)(p_p:Ge)(j1:(List Fd)->Option ((List Fo)×Int)):List Fo->Nat->(List Fd)->Option ((List Fo)×Int)
  |[],_,x1=>j1 x1
  |y1::ys1,i1,x1=>Chk (Ja x1.length) (
  Ok p_race p_p j1 ys1 (i1+1) (x1++[(Fd.mk p_race y1.Who y1.Club y1.Rank (decide (1<(((Ju p_p.Races p_race).1).Legs))))]))
def Lv(p_p:Ge)(x1:List Fd)(j2:(List Fo)->Option ((List Fo)×Int)):List Fd->Nat->(List Fo)->Option ((List Fo)×Int)
  |[],_,x2=>j2 x2
  |y2::ys2,i2,x2=>Fq (fun(x3:List Fo)=>
  Lv p_p x1 j2 ys2 (i2+1) x3) (λj3=>
  Fq (fun(x4:List Fo)=>
  j3 x4) (λj4=>
  if(Gg y2) then
  Option.bind (Mz p_p.Table x1 y2) (λr3=>
  Chk (inB (i2:Int) x2.length) (
  j4 (x2.set ((i2:Int).toNat) (Fo.mk ((nth x2 (i2:Int)).Rank) ((nth x2 (i2:Int)).Who) ((nth x2 (i2:Int)).Club) ((nth x2 (i2:Int)).Time) ((nth x2 (i2:Int)).Fault) r3))))
  else
  j4 x2))
def Lq(p_p:Ge)(p_l:List An)(p_race:ByteArray)(p_at:Int):Option ((List Fo)×Int):=
  Option.bind (Ym p_p p_l p_race p_at) (λr1=>
  Fq (fun(x1:List Fd)=>
  Option.bind (Kf x1) (λr2=>
  if !decide (r2=0) then
  some (([]:List Fo),r2)
  else
  Fq (fun(x2:List Fo)=>
  some (x2,0)) (λj2=>
  Lv p_p x1 j2 x1 0 r1))) (λj1=>
  Ok p_race p_p j1 r1 0 ([]:List Fd)))
def FC(xs:List ByteArray)(sep:ByteArray):Option ByteArray:=
  Chk (decide (xs.length<=140737488355328) && decide ((Lib.join (xs.map (·.data.toList)) sep.data.toList).length<=140737488355328)) (some (⟨(Lib.join (xs.map (·.data.toList)) sep.data.toList).toArray⟩))
def Tf(j1:(List ByteArray)->Option ByteArray):List Int->Nat->(List ByteArray)->Option ByteArray
  |[],_,x1=>j1 x1
  |y1::ys1,i1,x1=>Option.bind (Jb y1) (λr1=>
  Chk (Ja x1.length) (
  Tf j1 ys1 (i1+1) (x1++[r1])))
def Ko(p_l:List Int):Option ByteArray:=
  Fq (fun(x1:List ByteArray)=>
  Option.bind (FC x1 Gy) (λr2=>
  some r2)) (λj1=>
  Tf j1 p_l 0 ([]:List ByteArray))
def AI(p_n:Int):Option ByteArray:=
  Option.bind (Jb (W (Int.tdiv p_n 10))) (λr1=>
  Option.bind (Jb (Int.tmod p_n 10)) (λr2=>
  Chk (decide (r1.size+r2.size<1073741824)) (
  some (r1++r2))))
def CU(p_n:Int):Option ByteArray:=
  Option.bind (Jb (Int.tmod (W (Int.tdiv p_n 100)) 60)) (λr1=>
  Chk (decide (r1.size+LJ.size<1073741824)) (
  Option.bind (AI (Int.tmod p_n 100)) (λr2=>
  Chk (decide ((r1++LJ).size+r2.size<1073741824)) (
  Fq (fun(x1:ByteArray)=>
  some x1) (λj1=>
  if decide (6000<=p_n) then
  Option.bind (Jb (W (Int.tdiv p_n 6000))) (λr3=>
  Chk (decide (r3.size+QU.size<1073741824)) (
  Option.bind (AI (Int.tmod (W (Int.tdiv p_n 100)) 60)) (λr4=>
  Chk (decide ((r3++QU).size+r4.size<1073741824)) (
  Chk (decide (((r3++QU)++r4).size+LJ.size<1073741824)) (
  Option.bind (AI (Int.tmod p_n 100)) (λr5=>
  Chk (decide ((((r3++QU)++r4)++LJ).size+r5.size<1073741824)) (
  j1 ((((r3++QU)++r4)++LJ)++r5))))))))
  else
  j1 ((r1++LJ)++r2))))))
def Qx(p_n:Int):Option ByteArray:=
  if decide (p_n=0) then
  some BK
  else
  Option.bind (CU p_n) (λr1=>
  some r1)
def Vj(p_f:Fh):Option ByteArray:=
  Fq (fun(x1:ByteArray)=>
  some x1) (λj1=>
  Option.bind (Ko [p_f.Num]) (λr1=>
  Chk (decide (r1.size+XT.size<1073741824)) (
  Option.bind (Ko [p_f.Den]) (λr2=>
  Chk (decide ((r1++XT).size+r2.size<1073741824)) (
  j1 ((r1++XT)++r2))))))
def Tq(j1:(List Fi)->Option (List Fi)):List An->Nat->(List Fi)->Option (List Fi)
  |[],_,x1=>j1 x1
  |y1::ys1,i1,x1=>Chk (Ja x1.length) (
  Tq j1 ys1 (i1+1) (x1++[(Fi.mk y1.Who y1.Time)]))
def Uj(p_l:List An)(p_race:ByteArray)(p_at:Int):Option (List Fi):=
  Option.bind (Oa p_l p_race p_at) (λr1=>
  Fq (fun(x1:List Fi)=>
  some x1) (λj1=>
  Tq j1 r1 0 ([]:List Fi)))
def Ms(p_p:Gf)(j1:(List Int)->Option ((List Int)×Int)):Nat->(List Int)->Int->Option ((List Int)×Int)
  |0,_,_=>none
  |m1+1,x1,x2=>if decide (0<x2) then
  Chk (Ja x1.length) (
  Ms p_p j1 m1 (x1++[Xp x2 (W ((W (p_p.High-p_p.Low))+1))]) (W (x2-(W ((W (p_p.High-p_p.Low))+1)))))
  else
  j1 x1
def Kx(p_p:Gf)(j2:(List Int)->Option ((List Int)×Int)):Nat->(List Int)->Option ((List Int)×Int)
  |0,_=>none
  |m2+1,x3=>Fq (fun(c1:Bool)=>
  Fq (fun(c2:Bool)=>
  if c2 then
  Chk (inB 0 x3.length) (
  Chk (inB 0 x3.length) (
  Chk (inB 1 (x3.set ((0:Int).toNat) (W ((nth x3 0)+1))).length) (
  Chk (inB 1 (x3.set ((0:Int).toNat) (W ((nth x3 0)+1))).length) (
  Kx p_p j2 m2 ((x3.set ((0:Int).toNat) (W ((nth x3 0)+1))).set ((1:Int).toNat) (W ((nth (x3.set ((0:Int).toNat) (W ((nth x3 0)+1))) 1)-1)))))))
  else
  j2 x3) (λj4=>
  if c1 then Chk (inB 1 x3.length) (
  j4 (c1 && (decide (p_p.Least<(nth x3 1))))) else j4 (c1 && true))) (λj3=>
  if(decide (1<(x3.length:Int))) then Chk (inB 0 x3.length) (
  j3 ((decide (1<(x3.length:Int))) && (decide ((nth x3 0)<p_p.Least)))) else j3 ((decide (1<(x3.length:Int))) && true))
def Zq(p_p:Gf)(p_many:Int):Option ((List Int)×Int):=
  Fq (fun(x1:List Int)=>
  if decide (60<(x1.length:Int)) then
  some (([]:List Int),2)
  else
  Option.bind (Pd x1) (λr1=>
  Fq (fun(x3:List Int)=>
  some (x3,0)) (λj2=>
  Kx p_p j2 4611686018427387904 r1))) (λj1=>
  Ms p_p j1 ((p_many-0).toNat+2) ([]:List Int) p_many)
def Tg(p_a:Fi)(p_b:Fi):Int:=
  if !decide ((decide (p_a.Time=0))=(decide (p_b.Time=0))) then
  (Jt p_b.Time p_a.Time)
  else
  (Jt p_a.Time p_b.Time)
def Wa(j1:(List ByteArray)->Option (List ByteArray)):List Fi->Nat->(List ByteArray)->Option (List ByteArray)
  |[],_,x1=>j1 x1
  |y1::ys1,i1,x1=>Chk (Ja x1.length) (
  Wa j1 ys1 (i1+1) (x1++[y1.Who]))
def Zr(p_l:List Fi):Option (List ByteArray):=
  Option.bind (Vi p_l) (λr1=>
  Option.bind (Ie Tg r1) (λr2=>
  Fq (fun(x1:List ByteArray)=>
  some x1) (λj1=>
  Wa j1 r2 0 ([]:List ByteArray))))
def Og(p_p:Gf)(j1:(List Int)->Option (List Int)):Nat->(List Int)->Int->Int->Option (List Int)
  |0,_,_,_=>none
  |m1+1,x1,x2,x3=>if((decide (p_p.Low<=x2))||(decide (x3<=p_p.High))) then
  Fq (fun(x4:List Int) (x5:Int) (x6:Int)=>
  Og p_p j1 m1 x4 x5 x6) (λj2=>
  Fq (fun(x7:List Int) (x8:Int)=>
  Fq (fun(x9:List Int) (x10:Int)=>
  j2 x9 x10 x8) (λj4=>
  if decide (p_p.Low<=x2) then
  Chk (Ja x7.length) (
  j4 (x7++[x2]) (W (x2-1)))
  else
  j4 x7 x2)) (λj3=>
  if decide (x3<=p_p.High) then
  Chk (Ja x1.length) (
  j3 (x1++[x3]) (W (x3+1)))
  else
  j3 x1 x3))
  else
  j1 x1
def Qf(p_p:Gf):Option (List Int):=
  Fq (fun(x1:List Int)=>
  some x1) (λj1=>
  Og p_p j1 4611686018427387904 ([W (Int.tdiv (W (p_p.Low+p_p.High)) 2)]:List Int) (W ((W (Int.tdiv (W (p_p.Low+p_p.High)) 2))-1)) (W ((W (Int.tdiv (W (p_p.Low+p_p.High)) 2))+1)))
def Zs(p_a:Ft)(p_b:Ft):Int:=
  (Ss [(Jt p_a.Heat p_b.Heat),(Jt p_a.Lane p_b.Lane)])
open Classical in
def Ib(p_x:List Ft):Option (List Ft):=if HC Zs p_x/\p_x.length<4611686018427387904 then some (Nc Zs p_x) else none
def Lo(p_sizes:List Int)(x1:List (List ByteArray))(j4:Int->Option (List Ft)):Nat->Int->Int->Option (List Ft)
  |0,_,_=>none
  |m2+1,x8,x9=>if decide (x9<(p_sizes.length:Int)) then
  Chk (inB x9 p_sizes.length) (
  Chk (inB x9 x1.length) (
  Lo p_sizes x1 j4 m2 (W (x8+(W ((nth p_sizes x9)-((nth x1 x9).length:Int))))) (W (x9+1))))
  else
  j4 x8
def Gv(p_p:Gf)(p_sizes:List Int)(j1:(List (List ByteArray))->(List ByteArray)->Option (List Ft)):Nat->(List (List ByteArray))->(List ByteArray)->Int->Option (List Ft)
  |0,_,_,_=>none
  |m1+1,x1,x2,x3=>if((decide (0<(x2.length:Int))) && (decide (2<=(Xp p_p.Circles (p_sizes.length:Int))))) then
  Fq (fun(x4:List (List ByteArray)) (x5:List ByteArray) (x6:Int)=>
  Gv p_p p_sizes j1 m1 x4 x5 (W (x6-1))) (λj2=>
  Fq (fun(x7:Int)=>
  Fq (fun(x8:Int)=>
  if decide (x8=0) then
  j1 x1 x2
  else
  Chk (inB x7 x1.length) (
  Chk (inB x7 p_sizes.length) (
  Fq (fun(x10:List (List ByteArray)) (x11:List ByteArray)=>
  j2 x10 x11 x7) (λj5=>
  if decide (((nth x1 x7).length:Int)<(nth p_sizes x7)) then
  Chk (inB x7 x1.length) (
  Chk (inB 0 x2.length) (
  Chk (Ja (nth x1 x7).length) (
  Chk (Tv 1 (x2.length:Int) x2.length) (
  j5 (x1.set x7.toNat ((nth x1 x7)++[(nth x2 0)])) (cut x2 1 x2.length)))))
  else
  j5 x1 x2)))) (λj4=>
  Lo p_sizes x1 j4 (((p_sizes.length:Int)-(W ((p_sizes.length:Int)-(Xp p_p.Circles (p_sizes.length:Int))))).toNat+2) 0 (W ((p_sizes.length:Int)-(Xp p_p.Circles (p_sizes.length:Int)))))) (λj3=>
  if decide (x3<(W ((p_sizes.length:Int)-(Xp p_p.Circles (p_sizes.length:Int))))) then
  j3 (W ((p_sizes.length:Int)-1))
  else
  j3 x3))
  else
  j1 x1 x2
def Na(x14:Int)(p_sizes:List Int)(j7:(List (List ByteArray))->(List ByteArray)->Option (List Ft)):Nat->(List (List ByteArray))->(List ByteArray)->Option (List Ft)
  |0,_,_=>none
  |m4+1,x15,x16=>Chk (inB x14 x15.length) (
  Chk (inB x14 p_sizes.length) (
  if decide (((nth x15 x14).length:Int)<(nth p_sizes x14)) then
  Chk (inB x14 x15.length) (
  Chk (inB 0 x16.length) (
  Chk (Ja (nth x15 x14).length) (
  Chk (Tv 1 (x16.length:Int) x16.length) (
  Na x14 p_sizes j7 m4 (x15.set x14.toNat ((nth x15 x14)++[(nth x16 0)])) (cut x16 1 x16.length)))))
  else
  j7 x15 x16))
def Jo(p_sizes:List Int)(j6:(List (List ByteArray))->Option (List Ft)):Nat->(List (List ByteArray))->(List ByteArray)->Int->Option (List Ft)
  |0,_,_,_=>none
  |m3+1,x12,x13,x14=>if decide (0<=x14) then
  Fq (fun(x15:List (List ByteArray)) (x16:List ByteArray)=>
  Jo p_sizes j6 m3 x15 x16 (W (x14-1))) (λj7=>
  Na x14 p_sizes j7 (((nth p_sizes x14)-((nth x12 x14).length:Int)).toNat+2) x12 x13)
  else
  j6 x12
def Nb(r1:(List Int))(i5:Nat)(j9:(List Ft)->Option (List Ft)):List ByteArray->Nat->(List Ft)->Option (List Ft)
  |[],_,x18=>j9 x18
  |y2::ys2,i6,x18=>Chk (inB (i6:Int) r1.length) (
  Chk (Ja x18.length) (
  Nb r1 i5 j9 ys2 (i6+1) (x18++[(Ft.mk y2 (W ((i5:Int)+1)) (nth r1 (i6:Int)))])))
def Lp(r1:(List Int))(j8:(List Ft)->Option (List Ft)):List (List ByteArray)->Nat->(List Ft)->Option (List Ft)
  |[],_,x17=>j8 x17
  |y1::ys1,i5,x17=>Fq (fun(x18:List Ft)=>
  Lp r1 j8 ys1 (i5+1) x18) (λj9=>
  Nb r1 i5 j9 y1 0 x17)
def CA(p_p:Gf)(p_who:List ByteArray)(p_sizes:List Int):Option (List Ft):=
  Option.bind (Qf p_p) (λr1=>
  Chk (decide (0<=(p_sizes.length:Int)) && decide ((p_sizes.length:Int)<1073741824)) (
  Fq (fun(x1:List (List ByteArray)) (x2:List ByteArray)=>
  Fq (fun(x12:List (List ByteArray))=>
  Fq (fun(x17:List Ft)=>
  Option.bind (Ib x17) (λr4=>
  some r4)) (λj8=>
  Lp r1 j8 x12 0 ([]:List Ft))) (λj6=>
  Jo p_sizes j6 (((W ((p_sizes.length:Int)-1))-0).toNat+2) x1 x2 (W ((p_sizes.length:Int)-1)))) (λj1=>
  Gv p_p p_sizes j1 4611686018427387904 (List.replicate ((p_sizes.length:Int).toNat) []:List (List ByteArray)) p_who (W ((p_sizes.length:Int)-1)))))
def Ya(p_p:Gf)(p_l:List Fi):Option ((List Ft)×Int):=
  Option.bind (Zq p_p (p_l.length:Int)) (λr1=>
  if !decide (r1.2=0) then
  some (([]:List Ft),r1.2)
  else
  Option.bind (Zr p_l) (λr2=>
  Option.bind (CA p_p r2 r1.1) (λr3=>
  some (r3,0))))
def Uz(l:List ByteArray):List ByteArray:=((l.map λb=>b.data.toList).mergeSort λx y=>decide (x<=y)).map λb=>⟨b.toArray⟩
def AJ(p_x:List ByteArray):Option (List ByteArray):=Chk (decide (p_x.length<4611686018427387904)) (some (Uz p_x))
def Ob(p_s:List ByteArray)(x1:Int)(j2:(List ByteArray)->Int->Option (List ByteArray)):Nat->(List ByteArray)->Int->Int->Option (List ByteArray)
  |0,_,_,_=>none
  |m2+1,x2,x3,x4=>if decide (x4<(((p_s.length:Int).toNat-x1.toNat:Nat):Int)) then
  Fq (fun(x5:List ByteArray) (x6:Int)=>
  Ob p_s x1 j2 m2 x5 x6 (W (x4+1))) (λj3=>
  Chk (inB x4 ((p_s.length:Int).toNat-x1.toNat)) (
  Chk (inB (W (x4-1)) ((p_s.length:Int).toNat-x1.toNat)) (
  Fq (fun(x7:List ByteArray) (x8:Int)=>
  j3 x7 x8) (λj4=>
  if !decide ((nth (cut x2 x1 (p_s.length:Int)) x4)=(nth (cut x2 x1 (p_s.length:Int)) (W (x4-1)))) then
  Chk (inB x4 ((p_s.length:Int).toNat-x1.toNat)) (
  Chk (inB x3 x2.length) (
  j4 (x2.set x3.toNat (nth (cut x2 x1 (p_s.length:Int)) x4)) (W (x3+1))))
  else
  j4 x2 x3))))
  else
  j2 x2 x3
def Lg(p_s:List ByteArray)(j1:Option (List ByteArray)):Nat->Int->Option (List ByteArray)
  |0,_=>none
  |m1+1,x1=>if decide (x1<(p_s.length:Int)) then
  Chk (inB x1 p_s.length) (
  Chk (inB (W (x1-1)) p_s.length) (
  if decide ((nth p_s x1)=(nth p_s (W (x1-1)))) then
  Chk (Tv x1 (p_s.length:Int) p_s.length) (
  Fq (fun(x2:List ByteArray) (x3:Int)=>
  Chk (Tv x3 (x2.length:Int) x2.length) (
  Chk (Tv 0 x3 (clr x2 x3 (x2.length:Int) Ff).length) (
  some (cut (clr x2 x3 (x2.length:Int) Ff) (0:Int) x3)))) (λj2=>
  Ob p_s x1 j2 (((((p_s.length:Int).toNat-x1.toNat:Nat):Int)-1).toNat+2) p_s x1 1))
  else
  Lg p_s j1 m1 (W (x1+1))))
  else
  j1
def Tr(p_s:List ByteArray):Option (List ByteArray):=
  if decide ((p_s.length:Int)<2) then
  some p_s
  else
  Fq (some p_s) (λj1=>
  Lg p_s j1 (((p_s.length:Int)-1).toNat+2) 1)
def BD(p_a:Fh)(p_b:Fh):Option Fh:=
  Option.bind (Pw (W ((W (p_a.Num*p_b.Den))+(W (p_b.Num*p_a.Den)))) (W (p_a.Den*p_b.Den))) (λr1=>
  some r1)
def Np(p_name:ByteArray)(j1:Int->Int->Option Fh):List Fo->Nat->Int->Int->Option Fh
  |[],_,x1,x2=>j1 x1 x2
  |y1::ys1,i1,x1,x2=>Fq (fun(x3:Int) (x4:Int)=>
  Np p_name j1 ys1 (i1+1) x3 x4) (λj2=>
  Fq (fun(x5:Int) (x6:Int)=>
  j2 x5 x6) (λj3=>
  if decide (y1.Club=p_name) then
  Option.bind (BD (Fh.mk x1 x2) y1.Points) (λr1=>
  j3 r1.Num r1.Den)
  else
  j3 x1 x2))
def Wb(p_name:ByteArray)(p_a1:List Fo):Option Fh:=
  Fq (fun(x1:Int) (x2:Int)=>
  some (Fh.mk x1 x2)) (λj1=>
  Np p_name j1 p_a1 0 0 1)
def Hs(p_of_0:List Fo)(j1:(List Fx)->Option (List Fx)):List ByteArray->Nat->(List Fx)->Option (List Fx)
  |[],_,x1=>j1 x1
  |y1::ys1,i1,x1=>Option.bind (Wb y1 p_of_0) (λr3=>
  Chk (Ja x1.length) (
  Hs p_of_0 j1 ys1 (i1+1) (x1++[(Fx.mk y1 r3)])))
def Mb(p_names:List ByteArray)(p_of_0:List Fo):Option (List Fx):=
  Option.bind (AJ p_names) (λr1=>
  Option.bind (Tr r1) (λr2=>
  Fq (fun(x1:List Fx)=>
  some x1) (λj1=>
  Hs p_of_0 j1 r2 0 ([]:List Fx))))
def Qo(j2:(List ByteArray)->Option ((List Fx)×Int)):List An->Nat->(List ByteArray)->Option ((List Fx)×Int)
  |[],_,x3=>j2 x3
  |y2::ys2,i2,x3=>Fq (fun(x4:List ByteArray)=>
  Qo j2 ys2 (i2+1) x4) (λj3=>
  Fq (fun(x5:List ByteArray)=>
  j3 x5) (λj4=>
  if !decide (y2.Club=Ff) then
  Chk (Ja x3.length) (
  j4 (x3++[y2.Club]))
  else
  j4 x3))
def Qp(p_l:List An)(p_at:Int)(p_p:Ge)(j1:(List Fo)->(List ByteArray)->Option ((List Fx)×Int)):List Fp->Nat->(List Fo)->(List ByteArray)->Option ((List Fx)×Int)
  |[],_,x1,x2=>j1 x1 x2
  |y1::ys1,i1,x1,x2=>Option.bind (Oa p_l y1.Key p_at) (λr1=>
  Fq (fun(x3:List ByteArray)=>
  Option.bind (Lq p_p p_l y1.Key p_at) (λr2=>
  if !decide (r2.2=0) then
  some (([]:List Fx),r2.2)
  else
  Chk (decide (x1.length+r2.1.length<1073741824)) (
  Qp p_l p_at p_p j1 ys1 (i1+1) (x1++r2.1) x3))) (λj2=>
  Qo j2 r1 0 x2))
def Wt(p_p:Ge)(p_l:List An)(p_at:Int):Option ((List Fx)×Int):=
  Fq (fun(x1:List Fo) (x2:List ByteArray)=>
  Option.bind (Mb x2 x1) (λr3=>
  some (r3,0))) (λj1=>
  Qp p_l p_at p_p j1 p_p.Races 0 ([]:List Fo) ([]:List ByteArray))
def Pm(p_who:ByteArray)(y1:Fp)(j4:ByteArray->Option ((List ByteArray)×Int)):List Fo->Nat->ByteArray->Option ((List ByteArray)×Int)
  |[],_,x4=>j4 x4
  |y3::ys3,i3,x4=>Fq (fun(x5:ByteArray)=>
  Pm p_who y1 j4 ys3 (i3+1) x5) (λj5=>
  if !decide (y3.Who=p_who) then
  j5 x4
  else
  Fq (fun(x6:ByteArray)=>
  Chk (decide (y1.Key.size+Gy.size<1073741824)) (
  Chk (decide ((y1.Key++Gy).size+x6.size<1073741824)) (
  Chk (decide (((y1.Key++Gy)++x6).size+Gy.size<1073741824)) (
  Option.bind (Qx y3.Time) (λr5=>
  Chk (decide ((((y1.Key++Gy)++x6)++Gy).size+r5.size<1073741824)) (
  j5 ((((y1.Key++Gy)++x6)++Gy)++r5))))))) (λj6=>
  if decide (0<y3.Rank) then
  Option.bind (Ko [y3.Rank]) (λr4=>
  j6 r4)
  else
  j6 BK))
def Mm(p_who:ByteArray)(p_p:Ge)(p_l:List An)(y1:Fp)(p_at:Int)(j2:(List ByteArray)->Option ((List ByteArray)×Int)):List An->Nat->(List ByteArray)->Option ((List ByteArray)×Int)
  |[],_,x2=>j2 x2
  |y2::ys2,i2,x2=>Fq (fun(x3:List ByteArray)=>
  Mm p_who p_p p_l y1 p_at j2 ys2 (i2+1) x3) (λj3=>
  if !decide (y2.Who=p_who) then
  j3 x2
  else
  Option.bind (Lq p_p p_l y1.Key p_at) (λr2=>
  if !decide (r2.2=0) then
  some (([]:List ByteArray),r2.2)
  else
  Chk (decide (y1.Key.size+Wm.size<1073741824)) (
  Option.bind (Qx y2.Time) (λr3=>
  Chk (decide ((y1.Key++Wm).size+r3.size<1073741824)) (
  Fq (fun(x4:ByteArray)=>
  Chk (Ja x2.length) (
  j3 (x2++[x4]))) (λj4=>
  Pm p_who y1 j4 r2.1 0 ((y1.Key++Wm)++r3)))))))
def Uk(p_l:List An)(p_at:Int)(p_who:ByteArray)(p_p:Ge)(j1:(List ByteArray)->Option ((List ByteArray)×Int)):List Fp->Nat->(List ByteArray)->Option ((List ByteArray)×Int)
  |[],_,x1=>j1 x1
  |y1::ys1,i1,x1=>Option.bind (Oa p_l y1.Key p_at) (λr1=>
  Fq (fun(x2:List ByteArray)=>
  Uk p_l p_at p_who p_p j1 ys1 (i1+1) x2) (λj2=>
  Mm p_who p_p p_l y1 p_at j2 r1 0 x1))
def Vu(p_p:Ge)(p_l:List An)(p_who:ByteArray)(p_at:Int):Option ((List ByteArray)×Int):=
  Fq (fun(x1:List ByteArray)=>
  some (x1,0)) (λj1=>
  Uk p_l p_at p_who p_p j1 p_p.Races 0 ([]:List ByteArray))
def Ol(p_l:List An)(y1:Fp)(p_at:Int)(j2:(List Hu)->Option (List Hu)):List An->Nat->(List Hu)->Option (List Hu)
  |[],_,x2=>j2 x2
  |y2::ys2,i2,x2=>Fq (fun(x3:List Hu)=>
  Ol p_l y1 p_at j2 ys2 (i2+1) x3) (λj3=>
  Option.bind (BC p_l y1.Key y2.Who p_at) (λr2=>
  Fq (fun(x4:List Hu)=>
  j3 x4) (λj4=>
  if !r2.2 then
  Chk (Ja x2.length) (
  j4 (x2++[(Hu.mk y1.Key y2.Who)]))
  else
  j4 x2)))
def Mq(p_l:List An)(p_at:Int)(j1:(List Hu)->Option (List Hu)):List Fp->Nat->(List Hu)->Option (List Hu)
  |[],_,x1=>j1 x1
  |y1::ys1,i1,x1=>Option.bind (Oa p_l y1.Key p_at) (λr1=>
  Fq (fun(x2:List Hu)=>
  Mq p_l p_at j1 ys1 (i1+1) x2) (λj2=>
  Ol p_l y1 p_at j2 r1 0 x1))
def Ul(p_p:Ge)(p_l:List An)(p_at:Int):Option (List Hu):=
  Fq (fun(x1:List Hu)=>
  some x1) (λj1=>
  Mq p_l p_at j1 p_p.Races 0 ([]:List Hu))
def Pn(j3:(List ByteArray)->Option ((List ByteArray)×Int)):List Fo->Nat->(List ByteArray)->Option ((List ByteArray)×Int)
  |[],_,x2=>j3 x2
  |y1::ys1,i1,x2=>Option.bind (Ko [y1.Rank]) (λr4=>
  Chk (decide (r4.size+Gy.size<1073741824)) (
  Chk (decide ((r4++Gy).size+y1.Who.size<1073741824)) (
  Chk (decide (((r4++Gy)++y1.Who).size+Gy.size<1073741824)) (
  Option.bind (Qx y1.Time) (λr5=>
  Chk (decide ((((r4++Gy)++y1.Who)++Gy).size+r5.size<1073741824)) (
  Chk (decide (((((r4++Gy)++y1.Who)++Gy)++r5).size+Gy.size<1073741824)) (
  Option.bind (Vj y1.Points) (λr6=>
  Chk (decide ((((((r4++Gy)++y1.Who)++Gy)++r5)++Gy).size+r6.size<1073741824)) (
  Chk (Ja x2.length) (
  Pn j3 ys1 (i1+1) (x2++[(((((r4++Gy)++y1.Who)++Gy)++r5)++Gy)++r6])))))))))))
def Po(j4:(List ByteArray)->Option ((List ByteArray)×Int)):List Ft->Nat->(List ByteArray)->Option ((List ByteArray)×Int)
  |[],_,x3=>j4 x3
  |y2::ys2,i2,x3=>Option.bind (Ko [y2.Heat,y2.Lane]) (λr9=>
  Chk (decide (r9.size+Gy.size<1073741824)) (
  Chk (decide ((r9++Gy).size+y2.Who.size<1073741824)) (
  Chk (Ja x3.length) (
  Po j4 ys2 (i2+1) (x3++[(r9++Gy)++y2.Who])))))
def Pp(j5:(List ByteArray)->Option ((List ByteArray)×Int)):List Fx->Nat->(List ByteArray)->Option ((List ByteArray)×Int)
  |[],_,x4=>j5 x4
  |y3::ys3,i3,x4=>Chk (decide (y3.Key.size+Gy.size<1073741824)) (
  Option.bind (Vj y3.Points) (λr11=>
  Chk (decide ((y3.Key++Gy).size+r11.size<1073741824)) (
  Chk (Ja x4.length) (
  Pp j5 ys3 (i3+1) (x4++[(y3.Key++Gy)++r11])))))
def Pq(j7:(List ByteArray)->Option ((List ByteArray)×Int)):List Hu->Nat->(List ByteArray)->Option ((List ByteArray)×Int)
  |[],_,x5=>j7 x5
  |y4::ys4,i4,x5=>Chk (decide (y4.Name.size+Gy.size<1073741824)) (
  Chk (decide ((y4.Name++Gy).size+y4.Value.size<1073741824)) (
  Chk (Ja x5.length) (
  Pq j7 ys4 (i4+1) (x5++[(y4.Name++Gy)++y4.Value]))))
def Jz(p_p:Ge)(p_q:Gf)(p_l:List An)(p_w:List ByteArray)(p_at:Int):Option ((List ByteArray)×Int):=
  Option.bind (Kn p_p p_l p_at) (λr1=>
  Chk (inB 0 p_w.length) (
  Fq (fun(c1:Bool)=>
  Fq (fun(x1:Int)=>
  if !decide (x1=0) then
  some (([]:List ByteArray),x1)
  else
  Chk (inB 0 p_w.length) (
  if decide ((nth p_w 0)=Uw) then
  Chk (inB 1 p_w.length) (
  Option.bind (Lq p_p p_l (nth p_w 1) p_at) (λr3=>
  Fq (fun(x2:List ByteArray)=>
  some (x2,r3.2)) (λj3=>
  Pn j3 r3.1 0 ([]:List ByteArray))))
  else
  if decide ((nth p_w 0)=AB) then
  Chk (inB 1 p_w.length) (
  Option.bind (Uj p_l (nth p_w 1) p_at) (λr7=>
  Option.bind (Ya p_q r7) (λr8=>
  Fq (fun(x3:List ByteArray)=>
  some (x3,r8.2)) (λj4=>
  Po j4 r8.1 0 ([]:List ByteArray)))))
  else
  if decide ((nth p_w 0)=Up) then
  Option.bind (Wt p_p p_l p_at) (λr10=>
  Fq (fun(x4:List ByteArray)=>
  some (x4,r10.2)) (λj5=>
  Pp j5 r10.1 0 ([]:List ByteArray)))
  else
  if decide ((nth p_w 0)=LK) then
  Chk (inB 1 p_w.length) (
  Option.bind (Vu p_p p_l (nth p_w 1) p_at) (λr12=>
  Fq (fun(c2:Bool)=>
  if c2 then
  some (([]:List ByteArray),5)
  else
  some (r12.1,r12.2)) (λj6=>
  if(decide (r12.2=0)) then Chk (inB 1 p_w.length) (
  Option.bind (Lu (nth p_w 1)) (λr13=>
  j6 ((decide (r12.2=0)) && (!r13)))) else j6 ((decide (r12.2=0)) && true))))
  else
  Option.bind (Ul p_p p_l p_at) (λr14=>
  Fq (fun(x5:List ByteArray)=>
  some (x5,0)) (λj7=>
  Pq j7 r14 0 ([]:List ByteArray))))) (λj2=>
  if c1 then
  Chk (inB 1 p_w.length) (
  Option.bind (Jn p_p p_l (nth p_w 1) p_at) (λr2=>
  j2 r2))
  else
  j2 r1)) (λj1=>
  if(decide ((nth p_w 0)=Uw)) then j1 ((decide ((nth p_w 0)=Uw))||true) else Chk (inB 0 p_w.length) (
  j1 ((decide ((nth p_w 0)=Uw))||(decide ((nth p_w 0)=AB)))))))
def Pt(s:ByteArray)(p:ByteArray):ByteArray:=
  ⟨(Lib.trimPrefix s.data.toList p.data.toList).toArray⟩
def Yb(p_s:ByteArray)(p_most:Int):Option (Int×Bool):=
  Fq (fun(c1:Bool)=>
  if c1 then
  some (0,false)
  else
  Option.bind (JB p_s) (λr2=>
  Fq (fun(c2:Bool)=>
  some (r2,c2)) (λj2=>
  if true then Option.bind (Jb r2) (λr3=>
  j2 (true && (decide (r3=p_s)))) else j2 (true && true)))) (λj1=>
  if((decide ((Pt p_s BK)=Ff))||(decide (p_most<((Pt p_s BK).size:Int)))) then j1 (((decide ((Pt p_s BK)=Ff))||(decide (p_most<((Pt p_s BK).size:Int))))||true) else Option.bind (Yu (Pt p_s BK) VA) (λr1=>
  j1 (((decide ((Pt p_s BK)=Ff))||(decide (p_most<((Pt p_s BK).size:Int))))||(!r1))))
  def MX (s:ByteArray):ByteArray:=if decide (0<=Gq s 10) then KY s 0 (W (Gq s 10+1)) else s
def FY(s:ByteArray):ByteArray:=if decide (0<=Gq s 10) then KY s (W (Gq s 10+1)) s.size else Ff
def TO:Nat->ByteArray->List ByteArray
  |0,_=>[]
  |m+1,s=>if decide (0<(s.size:Int)) then MX s::TO m (FY s) else []
def Mr(j:ByteArray->Option ByteArray):List ByteArray->Nat->ByteArray->Option ByteArray
  |[],_,x=>j x
  |y::ys,i,x=>Chk (decide (y.size+Kw.size<1073741824)) (Chk (decide (x.size+(y++Kw).size<1073741824)) (Mr j ys (i+1) (x++(y++Kw))))
def VC:List (ByteArray×Int):=Iv (Iv (Iv (Iv (Iv (Iv ([]:List (ByteArray×Int)) YI 2) Uw 2) AB 2) LK 2) Up 1) Wr 1
def Yn(p:Ge)(q:Gf)(l:List An)(line:ByteArray)(at_:Int)(x:ByteArray)(j:Int->ByteArray->Option ByteArray):Option ByteArray:=
  Option.bind (Jm line Kw) λr0=>
  Option.bind (Ke r0) λr1=>
  Chk (inB 0 r1.1.length) (Fq (fun(a:List ByteArray) (e at2:Int)=>
    Fq (fun(a2:List ByteArray)=>Fq (λx2=>j at2 x2) λj3=>Mr j3 a2 0 x) λj2=>
      if !decide (e=0) then Option.bind (Ko [e]) λs=>Chk (decide (Sp.size+s.size<1073741824)) (j2 [Sp++s]) else j2 a) λj1=>
  if(r1.2 && (Tw VC (nth r1.1 0)).isSome) && decide ((r1.1.length:Int)=Gm VC (nth r1.1 0) 0) then
    Chk (inB 0 r1.1.length) (if !decide (nth r1.1 0=YI) then Option.bind (Jz p q l r1.1 at_) λr=>j1 r.1 r.2 at_
    else Chk (inB 1 r1.1.length) (Option.bind (Yb (nth r1.1 1) 15) λr=>if r.2 then(if Me r.1 then j1 [k_ok] 0 r.1 else j1 [k_ok] 1 at_) else j1 [] 9 at_))
  else j1 [] 9 at_)
def Om(p:Ge)(q:Gf)(l:List An):List ByteArray->Int->ByteArray->Option ByteArray
  |[],_,x=>some x
  |y::ys,at_,x=>Yn p q l y at_ x λa x=>Om p q l ys a x
def Xj(p:Ge)(q:Gf)(l:List An)(t:ByteArray):Option (ByteArray×Int):=
  if decide (2000<(t.size:Int)) then some (Ff,2) else
  Fq (fun(c:Bool)=>if c then some (Ff,9) else Option.bind (Om p q l (TO t.size t) 0 Ff) λx=>some (x,0)) λj=>
  if !decide (t=Ff) then Option.bind (Qr t Kw) λr=>j ((!decide (t=Ff)) && !r) else j ((!decide (t=Ff)) && true)
def Yo(p_l:List Int):Option Bool:=
  Option.bind (AT p_l 0) (λr1=>
  Option.bind (AU p_l r1.2) (λr2=>
  Option.bind (Wz p_l r2.2 14) (λr3=>
  Option.bind (DO p_l r3.2) (λr4=>
  Option.bind (AF r1.1 r2.1 r3.1 r4.1) (λr5=>
  Option.bind (Rv r1.1) (λr6=>
  Option.bind (Ql r3.1) (λr7=>
  if !decide ((Nz [r6,(Nk r2.1),r7])=0) then
  Fq (fun(c1:Bool)=>
  some c1) (λj1=>
  if((decide (r5.2=(Nz [r6,(Nk r2.1),r7]))) && (decide (r5.1=Ff))) then Option.bind (CT) (λr8=>
  j1 (((decide (r5.2=(Nz [r6,(Nk r2.1),r7]))) && (decide (r5.1=Ff))) && r8)) else j1 (((decide (r5.2=(Nz [r6,(Nk r2.1),r7]))) && (decide (r5.1=Ff))) && true))
  else
  Option.bind (Xj r1.1 r2.1 r3.1 r4.1) (λr9=>
  Fq (fun(c2:Bool)=>
  some c2) (λj2=>
  if((decide (r5.2=r9.2)) && (decide (r5.1=r9.1))) then Option.bind (CT) (λr10=>
  j2 (((decide (r5.2=r9.2)) && (decide (r5.1=r9.1))) && r10)) else j2 (((decide (r5.2=r9.2)) && (decide (r5.1=r9.1))) && true))))))))))
end
end Go.Proofs.YthlielagemkjcaaGreatDoor
