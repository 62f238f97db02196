/- The Go functions as plain Lean functions,by program. -/
import Derived.Test.YtconmpkpdfidiaaGreatDoorBase
import Derived.Laws.BytesArg
import Derived.Lib.ItoaNum
import Derived.Lib.Join
namespace Go.Proofs.YtconmpkpdfidiaaGreatDoor
open Go
noncomputable section
structure ZY where
  L:List Int
  at_:Int
  deriving DecidableEq,Inhabited
structure Ea where
  Key:ByteArray
  Metres:Int
  Stroke:Int
  Course:Int
  Legs:Int
  Sex:Int
  Young:Int
  Old:Int
  deriving DecidableEq,Inhabited
structure Jh where
  Points:List Int
  Relay:Int
  Most:Int
  deriving DecidableEq,Inhabited
structure Qe where
  Size:Int
  Many:Int
  Reserves:Int
  deriving DecidableEq,Inhabited
structure Iq where
  Races:List Ea
  Table:Jh
  Final:Qe
  deriving DecidableEq,Inhabited
structure Dt where
  Site:ByteArray
  No:Int
  At:Int
  Kind:Int
  Who:ByteArray
  Club:ByteArray
  Race:ByteArray
  Time:Int
  Fault:Int
  Of:ByteArray
  Other:Int
  deriving DecidableEq,Inhabited
structure Kq where
  p_:Iq
  deeds_:List Dt
  deriving DecidableEq,Inhabited
structure Ev where
  site_:ByteArray
  no_:Int
  deriving DecidableEq,Inhabited
structure Jn where
  Who:ByteArray
  Time:Int
  deriving DecidableEq,Inhabited
structure Jg where
  Who:ByteArray
  Fault:Int
  Reports:List ByteArray
  deriving DecidableEq,Inhabited
structure Dw where
  Who:ByteArray
  Rank:Int
  Time:Int
  Fault:Int
  deriving DecidableEq,Inhabited
structure Ef where
  Num:Int
  Den:Int
  deriving DecidableEq,Inhabited
structure Dy where
  Rank:Int
  Who:ByteArray
  Club:ByteArray
  Time:Int
  Fault:Int
  Points:Ef
  deriving DecidableEq,Inhabited
structure Du where
  Race:ByteArray
  Who:ByteArray
  Club:ByteArray
  Rank:Int
  Relay:Bool
  deriving DecidableEq,Inhabited
structure Fl where
  race_:ByteArray
  who_:ByteArray
  deriving DecidableEq,Inhabited
structure Od where
  Key:ByteArray
  Points:Ef
  deriving DecidableEq,Inhabited
structure Ec where
  x_:Du
  points_:Ef
  deriving DecidableEq,Inhabited
structure Gx where
  is_:Bool
  e_:Int
  deriving DecidableEq,Inhabited
def An:ByteArray:=⟨#[]⟩
def Po:ByteArray:=⟨#[114,97]⟩
def Yz:ByteArray:=⟨#[114,98]⟩
def BE:ByteArray:=⟨#[114,99]⟩
def Sb:ByteArray:=⟨#[115,97]⟩
def Sv:ByteArray:=⟨#[98,108,117,101]⟩
def KN:ByteArray:=⟨#[115,98]⟩
def Za:ByteArray:=⟨#[97,110,110]⟩
def CG:ByteArray:=⟨#[98,101,97]⟩
def LI:ByteArray:=⟨#[99,105,100]⟩
def LJ:ByteArray:=⟨#[100,97,110]⟩
def VZ:ByteArray:=⟨#[114,122]⟩
def EQ:ByteArray:=⟨#[114,101,100]⟩
def k_A:ByteArray:=⟨#[65]⟩
def k_a:ByteArray:=⟨#[97]⟩
def Hy:ByteArray:=⟨#[97,98,99,100,101,102,103,104,105,106,107,108,109,110,111,112,113,114,115,116,117,118,119,120,121,122,48,49,50,51,52,53,54,55,56,57,45,95]⟩
def Jo:ByteArray:=⟨#[32]⟩
def Nv:ByteArray:=⟨#[32,101,110,116,101,114,32]⟩
def HQ:ByteArray:=⟨#[45]⟩
def Xk:ByteArray:=⟨#[46]⟩
def Zj:ByteArray:=⟨#[58]⟩
def Jd:ByteArray:=⟨#[97,98,99,100,101,102,103,104,105,106,107,108,109,110,111,112,113,114,115,116,117,118,119,120,121,122]⟩
def k_r:ByteArray:=⟨#[114]⟩
def k_s:ByteArray:=⟨#[115]⟩
def Tu(p_x:Int)(p_n:Int):Option Int:=
  if decide (p_n<1) then
  some 0
  else
  Chk (!decide (p_n=0)) (
  Ff (fun(x1:Int)=>
  some x1) (λj1=>
  if decide ((Int.tmod p_x p_n)<0) then
  j1 (W ((Int.tmod p_x p_n)+p_n))
  else
  j1 (Int.tmod p_x p_n)))
def Rw(p_s_L:List Int)(p_s_at:Int)(p_n:Int):Option (Int×Int):=
  if decide ((p_s_L.length:Int)=0) then
  Option.bind (Tu (W ((W (p_s_at+1))*7919)) p_n) (λr1=>
  some (r1,W (p_s_at+1)))
  else
  Chk (!decide ((p_s_L.length:Int)=0)) (
  Chk (!decide ((p_s_L.length:Int)=0)) (
  Chk (inB (Int.tmod (W ((W (p_s_at+1))-1)) (p_s_L.length:Int)) p_s_L.length) (
  Option.bind (Tu (nth p_s_L (Int.tmod (W ((W (p_s_at+1))-1)) (p_s_L.length:Int))) 1073741824) (λr2=>
  Option.bind (Tu (W (r2+(W ((W (Int.tdiv (W ((W (p_s_at+1))-1)) (p_s_L.length:Int)))*(W (7919+(Int.tmod (W ((W (p_s_at+1))-1)) (p_s_L.length:Int)))))))) p_n) (λr3=>
  some (r3,W (p_s_at+1)))))))
def Qx(p_s_L:List Int)(p_s_at:Int)(p_n:Int):Option (Bool×Int):=
  Option.bind (Rw p_s_L p_s_at p_n) (λr1=>
  some (decide (r1.1=0),r1.2))
def Jz(p_s_L:List Int)(p_s_at:Int)(p_l:List Int):Option (Int×Int):=
  Option.bind (Rw p_s_L p_s_at (p_l.length:Int)) (λr1=>
  Chk (inB r1.1 p_l.length) (
  some ((nth p_l r1.1),r1.2)))
def Te(p_s_L:List Int)(p_s_at:Int)(p_key:ByteArray):Option (Ea×Int):=
  Option.bind (Jz p_s_L p_s_at [50,100,200]) (λr1=>
  Option.bind (Jz p_s_L r1.2 [1,2,3,4]) (λr2=>
  Option.bind (Jz p_s_L r2.2 [25,50]) (λr3=>
  Option.bind (Jz p_s_L r3.2 [1,1,1,4]) (λr4=>
  Option.bind (Jz p_s_L r4.2 [0,1,2]) (λr5=>
  Option.bind (Jz p_s_L r5.2 [0,0,5,10]) (λr6=>
  Option.bind (Jz p_s_L r6.2 [0,5,90]) (λr7=>
  some ((Ea.mk p_key r1.1 r2.1 r3.1 r4.1 r5.1 r6.1 (W (r6.1+r7.1))),r7.2))))))))
def Ki(p_s_L:List Int)(j1:(List Ea)->Int->Option ((List Ea)×Int)):List ByteArray->Nat->(List Ea)->Int->Option ((List Ea)×Int)
  |[],_,x1,x2=>j1 x1 x2
  |y1::ys1,i1,x1,x2=>Ff (fun(x3:List Ea) (x4:Int)=>
  Ki p_s_L j1 ys1 (i1+1) x3 x4) (λj2=>
  Option.bind (Qx p_s_L x2 6) (λr1=>
  Ff (fun(x5:List Ea) (x6:Int)=>
  j2 x5 x6) (λj3=>
  if !r1.1 then
  Option.bind (Te p_s_L r1.2 y1) (λr2=>
  Chk (Px x1.length) (
  j3 (x1++[r2.1]) r2.2))
  else
  j3 x1 r1.2)))
def Si(p_s_L:List Int)(p_s_at:Int):Option ((List Ea)×Int):=
  Ff (fun(x1:List Ea) (x2:Int)=>
  some (x1,x2)) (λj1=>
  Ki p_s_L j1 ([Po,Yz,BE]:List ByteArray) 0 ([]:List Ea) p_s_at)
def Oy(p_s_L:List Int)(p_s_at:Int)(p_low:Int)(p_high:Int):Option (Int×Int):=
  if decide (p_high<p_low) then
  some (p_low,p_s_at)
  else
  Option.bind (Rw p_s_L p_s_at (W ((W (p_high-p_low))+1))) (λr1=>
  some (W (p_low+r1.1),r1.2))
def Lt(r4:Int×Int)(p_s_L:List Int)(j1:(List Int)->Int->Option (Jh×Int)):Nat->(List Int)->Int->Int->Int->Option (Jh×Int)
  |0,_,_,_,_=>none
  |m1+1,x1,x2,x3,x4=>if decide (x4<r4.1) then
  Chk (Px x1.length) (
  Option.bind (Jz p_s_L x2 [0,1,2,3]) (λr5=>
  Lt r4 p_s_L j1 m1 (x1++[x3]) r5.2 (MU 0 (W (x3-r5.1))) (W (x4+1))))
  else
  j1 x1 x2
def Tb(p_s_L:List Int)(p_s_at:Int):Option (Jh×Int):=
  Option.bind (Jz p_s_L p_s_at [1,2]) (λr1=>
  Option.bind (Jz p_s_L r1.2 [0,0,1,2]) (λr2=>
  Option.bind (Jz p_s_L r2.2 [10,9,7,5]) (λr3=>
  Option.bind (Oy p_s_L r3.2 0 5) (λr4=>
  Ff (fun(x1:List Int) (x2:Int)=>
  some ((Jh.mk x1 r1.1 r2.1),x2)) (λj1=>
  Lt r4 p_s_L j1 ((r4.1-0).toNat+2) ([]:List Int) r4.2 r3.1 0)))))
def Kk(j1:(List Ea)->Option (List Ea)):Nat->(List Ea)->Int->Int->Option (List Ea)
  |0,_,_,_=>none
  |m1+1,x1,x2,x3=>if decide (x2<x3) then
  Chk (inB x3 x1.length) (
  Chk (inB x2 x1.length) (
  Chk (inB x2 x1.length) (
  Chk (inB x3 (x1.set x2.toNat (nth x1 x3)).length) (
  Kk j1 m1 ((x1.set x2.toNat (nth x1 x3)).set x3.toNat (nth x1 x2)) (W (x2+1)) (W (x3-1))))))
  else
  j1 x1
def Th(p_s:List Ea):Option (List Ea):=
  Ff (fun(x1:List Ea)=>
  some x1) (λj1=>
  Kk j1 (((W ((p_s.length:Int)-1))-0).toNat+2) p_s 0 (W ((p_s.length:Int)-1)))
def Vx(p_s_L:List Int)(p_s_at:Int):Option (Iq×Int):=
  Option.bind (Si p_s_L p_s_at) (λr1=>
  Option.bind (Tb p_s_L r1.2) (λr2=>
  Option.bind (Oy p_s_L r2.2 1 3) (λr3=>
  Option.bind (Oy p_s_L r3.2 1 2) (λr4=>
  Option.bind (Oy p_s_L r4.2 0 2) (λr5=>
  Option.bind (Th r1.1) (λr6=>
  some ((Iq.mk r6 r2.1 (Qe.mk r3.1 r4.1 r5.1)),r5.2)))))))
def Pd(p_s_L:List Int)(p_s_at:Int)(p_l:List ByteArray):Option (ByteArray×Int):=
  Option.bind (Rw p_s_L p_s_at (p_l.length:Int)) (λr1=>
  Chk (inB r1.1 p_l.length) (
  some ((nth p_l r1.1),r1.2)))
def Pz(p_s_L:List Int)(p_s_at:Int)(p_low:Int)(p_high:Int):Option (Int×Int):=
  Option.bind (Qx p_s_L p_s_at 12) (λr1=>
  if r1.1 then
  Option.bind (Jz p_s_L r1.2 [W (p_low-1),W (p_high+1),p_low,p_high,(-1099511627776),1099511627776]) (λr2=>
  some (r2.1,r2.2))
  else
  Option.bind (Oy p_s_L r1.2 p_low p_high) (λr3=>
  some (r3.1,r3.2)))
def Tv(p_s_L:List Int)(p_s_at:Int):Option ((List Ea)×Int):=
  Option.bind (Si p_s_L p_s_at) (λr1=>
  Ff (fun(x1:Int) (x2:Bool)=>
  Ff (fun(x3:List Ea) (x4:Int)=>
  some (x3,x4)) (λj2=>
  if x2 then
  Option.bind (Rw p_s_L x1 (r1.1.length:Int)) (λr3=>
  Chk (inB r3.1 r1.1.length) (
  Option.bind (Pd p_s_L r3.2 [(nth r1.1 r3.1).Key,An,Po]) (λr4=>
  Option.bind (Pz p_s_L r4.2 1 4) (λr5=>
  Option.bind (Jz p_s_L r5.2 [25,50,33]) (λr6=>
  Option.bind (Jz p_s_L r6.2 [0,1,2,3]) (λr7=>
  j2 ((((r1.1.set r3.1.toNat (Ea.mk r4.1 ((nth r1.1 r3.1).Metres) ((nth r1.1 r3.1).Stroke) ((nth r1.1 r3.1).Course) ((nth r1.1 r3.1).Legs) ((nth r1.1 r3.1).Sex) ((nth r1.1 r3.1).Young) ((nth r1.1 r3.1).Old))).set r3.1.toNat (Ea.mk r4.1 ((nth r1.1 r3.1).Metres) ((nth r1.1 r3.1).Stroke) ((nth r1.1 r3.1).Course) r5.1 ((nth r1.1 r3.1).Sex) ((nth r1.1 r3.1).Young) ((nth r1.1 r3.1).Old))).set r3.1.toNat (Ea.mk r4.1 ((nth r1.1 r3.1).Metres) ((nth r1.1 r3.1).Stroke) r6.1 r5.1 ((nth r1.1 r3.1).Sex) ((nth r1.1 r3.1).Young) ((nth r1.1 r3.1).Old))).set r3.1.toNat (Ea.mk r4.1 ((nth r1.1 r3.1).Metres) ((nth r1.1 r3.1).Stroke) r6.1 r5.1 r7.1 ((nth r1.1 r3.1).Young) ((nth r1.1 r3.1).Old))) r7.2))))))
  else
  j2 r1.1 x1)) (λj1=>
  if(decide (0<(r1.1.length:Int))) then
  Option.bind (Qx p_s_L r1.2 12) (λr2=>
  j1 r2.2 r2.1)
  else
  j1 r1.2 false))
def Vy(p_s:List Int):Option (List Int):=
  Chk (decide ((([]:List Int):List Int).length+p_s.length<1073741824)) (
  some ((([]:List Int):List Int)++p_s))
def Zk(p_s_L:List Int)(p_s_at:Int):Option (Jh×Int):=
  Option.bind (Tb p_s_L p_s_at) (λr1=>
  Option.bind (Qx p_s_L r1.2 12) (λr2=>
  Ff (fun(x1:List Int) (x2:Int) (x3:Int) (x4:Int)=>
  some ((Jh.mk x1 x2 x3),x4)) (λj1=>
  if r2.1 then
  Option.bind (Pz p_s_L r2.2 1 10) (λr3=>
  Option.bind (Pz p_s_L r3.2 0 10) (λr4=>
  Option.bind (Vy r1.1.Points) (λr5=>
  Option.bind (Pz p_s_L r4.2 0 20) (λr6=>
  Chk (Px r5.length) (
  j1 (r5++[r6.1]) r3.1 r4.1 r6.2)))))
  else
  j1 r1.1.Points r1.1.Relay r1.1.Most r2.2)))
def Wq(p_s_L:List Int)(p_s_at:Int):Option (Iq×Int):=
  Option.bind (Vx p_s_L p_s_at) (λr1=>
  Option.bind (Qx p_s_L r1.2 12) (λr2=>
  Ff (fun(x1:List Int) (x2:Int) (x3:Int) (x4:Int) (x5:Int) (x6:Int) (x7:List Ea) (x8:Int)=>
  some ((Iq.mk x7 (Jh.mk x1 x2 x3) (Qe.mk x4 x5 x6)),x8)) (λj1=>
  if r2.1 then
  Option.bind (Rw p_s_L r2.2 3) (λr3=>
  Ff (fun(x9:List Int) (x10:Int) (x11:Int) (x12:Int) (x13:Int) (x14:Int) (x15:List Ea) (x16:Int)=>
  j1 x9 x10 x11 x12 x13 x14 x15 x16) (λj2=>
  Ff (fun(x17:List Int) (x18:Int) (x19:Int) (x20:Int) (x21:Int) (x22:Int) (x23:List Ea) (x24:Int)=>
  j2 x17 x18 x19 x20 x21 x22 x23 x24) (λj3=>
  if decide (r3.1=0) then
  Option.bind (Tv p_s_L r3.2) (λr4=>
  Chk (decide (r1.1.Races.length+r4.1.length<1073741824)) (
  j3 r1.1.Table.Points r1.1.Table.Relay r1.1.Table.Most r1.1.Final.Size r1.1.Final.Many r1.1.Final.Reserves (r1.1.Races++r4.1) r4.2))
  else
  Ff (fun(x25:List Int) (x26:Int) (x27:Int) (x28:Int) (x29:Int) (x30:Int) (x31:Int)=>
  j3 x25 x26 x27 x28 x29 x30 r1.1.Races x31) (λj4=>
  if decide (r3.1=1) then
  Option.bind (Zk p_s_L r3.2) (λr5=>
  j4 r5.1.Points r5.1.Relay r5.1.Most r1.1.Final.Size r1.1.Final.Many r1.1.Final.Reserves r5.2)
  else
  Option.bind (Pz p_s_L r3.2 1 10) (λr6=>
  Option.bind (Pz p_s_L r6.2 1 5) (λr7=>
  Option.bind (Pz p_s_L r7.2 0 10) (λr8=>
  j4 r1.1.Table.Points r1.1.Table.Relay r1.1.Table.Most r6.1 r7.1 r8.1 r8.2)))))))
  else
  j1 r1.1.Table.Points r1.1.Table.Relay r1.1.Table.Most r1.1.Final.Size r1.1.Final.Many r1.1.Final.Reserves r1.1.Races r2.2)))
def Mh(r1:Int×Int)(j1:(List Dt)->Option ((List Dt)×Int)):Nat->(List Dt)->Int->Option ((List Dt)×Int)
  |0,_,_=>none
  |m1+1,x1,x2=>if decide (x2<r1.1) then
  Chk (Px x1.length) (
  Mh r1 j1 m1 (x1++[(Dt.mk Sb (W ((W (2*x2))+1)) 0 1 (Utf8.encode (IntKind.wrap .i32 (W (97+x2)))) Sv Po 0 0 An 0),(Dt.mk Sb (W ((W (2*x2))+2)) 0 3 (Utf8.encode (IntKind.wrap .i32 (W (97+x2)))) An Po 6000 0 An 0)]) (W (x2+1)))
  else
  j1 x1
def Xt(p_s_L:List Int)(p_s_at:Int):Option ((List Dt)×Int):=
  Option.bind (Oy p_s_L p_s_at 9 12) (λr1=>
  Ff (fun(x1:List Dt)=>
  some (x1,r1.2)) (λj1=>
  Mh r1 j1 ((r1.1-0).toNat+2) ([]:List Dt) 0))
def Lu(r1:Int×Int)(j1:(List Dt)->Option ((List Dt)×Int)):Nat->(List Dt)->Int->Option ((List Dt)×Int)
  |0,_,_=>none
  |m1+1,x1,x2=>if decide (x2<(W (300+r1.1))) then
  Chk (decide ((Utf8.encode (IntKind.wrap .i32 (W (97+(W (Int.tdiv x2 26)))))).size+(Utf8.encode (IntKind.wrap .i32 (W (97+(Int.tmod x2 26))))).size<1073741824)) (
  Chk (Px x1.length) (
  Lu r1 j1 m1 (x1++[(Dt.mk Sb (W (x2+1)) 0 1 ((Utf8.encode (IntKind.wrap .i32 (W (97+(W (Int.tdiv x2 26))))))++(Utf8.encode (IntKind.wrap .i32 (W (97+(Int.tmod x2 26)))))) An Po 0 0 An 0)]) (W (x2+1))))
  else
  j1 x1
def Xd(p_s_L:List Int)(p_s_at:Int):Option ((List Dt)×Int):=
  Option.bind (Oy p_s_L p_s_at 0 1) (λr1=>
  Ff (fun(x1:List Dt)=>
  some (x1,r1.2)) (λj1=>
  Lu r1 j1 (((W (300+r1.1))-0).toNat+2) ([]:List Dt) 0))
def Qf(p_n:Int):Int:=
  if decide (p_n<0) then
  (-1)
  else
  if decide (0<p_n) then
  1
  else
  0
def Gv(s t:ByteArray):Int:=Lib.compareBytes s.data.toList t.data.toList
def Lg(p_a:Dt)(p_b:Dt):Int:=
  if !decide (p_a.At=p_b.At) then
  (Qf (W (p_a.At-p_b.At)))
  else
  if !decide (p_a.Site=p_b.Site) then
  (Gv p_a.Site p_b.Site)
  else
  (Qf (W (p_a.No-p_b.No)))
def Eo(p_a:Int)(j2:(List Dt)->Option (List Dt)):Nat->(List Dt)->Int->Option (List Dt)
  |0,_,_=>none
  |m2+1,x3,x4=>Ff (fun(x5:Bool)=>
  if x5 then
  Chk (inB (W (x4-1)) x3.length) (
  Chk (inB x4 x3.length) (
  Chk (inB x4 x3.length) (
  Chk (inB (W (x4-1)) (x3.set x4.toNat (nth x3 (W (x4-1)))).length) (
  Eo p_a j2 m2 ((x3.set x4.toNat (nth x3 (W (x4-1)))).set ((W (x4-1)).toNat) (nth x3 x4)) (W (x4-1))))))
  else
  j2 x3) (λj3=>
  if decide (p_a<x4) then
  Chk (inB x4 x3.length) (
  Chk (inB (W (x4-1)) x3.length) (
  j3 (decide ((Lg (nth x3 x4) (nth x3 (W (x4-1))))<0))))
  else
  j3 false)
def Fb(p_b:Int)(p_a:Int)(j1:(List Dt)->Option (List Dt)):Nat->(List Dt)->Int->Option (List Dt)
  |0,_,_=>none
  |m1+1,x1,x2=>if decide (x2<p_b) then
  Ff (fun(x3:List Dt)=>
  Fb p_b p_a j1 m1 x3 (W (x2+1))) (λj2=>
  Eo p_a j2 ((x2-p_a).toNat+2) x1 x2)
  else
  j1 x1
def Ht(p_data:List Dt)(p_a:Int)(p_b:Int):Option (List Dt):=
  Ff (fun(x1:List Dt)=>
  some x1) (λj1=>
  Fb p_b p_a j1 ((p_b-(W (p_a+1))).toNat+2) p_data (W (p_a+1)))
def Gd(p_n:Int)(j1:(List Dt)->Int->Option (List Dt)):Nat->(List Dt)->Int->Int->Option (List Dt)
  |0,_,_,_=>none
  |m1+1,x1,x2,x3=>if decide (x3<=p_n) then
  Option.bind (Ht x1 x2 x3) (λr1=>
  Gd p_n j1 m1 r1 x3 (W (x3+20)))
  else
  j1 x1 x2
def Hl(p_n:Int)(j3:Int->Option (List Dt)):Nat->Int->Int->Option (List Dt)
  |0,_,_=>none
  |_+1,x5,x6=>if decide (x6<=p_n) then
  none
  else
  j3 x5
def Ge(p_n:Int)(j2:Option (List Dt)):Nat->Int->Option (List Dt)
  |0,_=>none
  |m2+1,x4=>if decide (x4<p_n) then
  Ff (fun(x5:Int)=>
  if decide ((W (x5+x4))<p_n) then
  none
  else
  Ge p_n j2 m2 (W (x4*2))) (λj3=>
  Hl p_n j3 ((p_n-(W (2*x4))).toNat+2) 0 (W (2*x4)))
  else
  j2
def Kz(p_data:List Dt)(p_n:Int):Option (List Dt):=
  Ff (fun(x1:List Dt) (x2:Int)=>
  Option.bind (Ht x1 x2 p_n) (λr2=>
  Ff (some r2) (λj2=>
  Ge p_n j2 ((p_n-20).toNat+2) 20))) (λj1=>
  Gd p_n j1 ((p_n-20).toNat+2) p_data 0 20)
def Ik(p_x:List Dt):Option (List Dt):=
  Option.bind (Kz p_x (p_x.length:Int)) (λr1=>
  some r1)
def Pj(p_many:Int)(p_s_L:List Int)(j1:(List (ByteArray×Int))->(List Dt)->Int->Option ((List Dt)×Int)):Nat->(List (ByteArray×Int))->(List Dt)->Int->Int->Int->Option ((List Dt)×Int)
  |0,_,_,_,_,_=>none
  |m1+1,x1,x2,x3,x4,x5=>if decide (x5<p_many) then
  Option.bind (Jz p_s_L x3 [0,1,5]) (λr1=>
  Option.bind (Pd p_s_L r1.2 [Sb,Sb,KN]) (λr2=>
  Option.bind (Jz p_s_L r2.2 [1,1,1,3,3,3,2,4]) (λr3=>
  Ff (fun(x6:ByteArray) (x7:ByteArray) (x8:Int)=>
  Ff (fun(x9:ByteArray) (x10:Int) (x11:Int) (x12:ByteArray) (x13:Int) (x14:Int)=>
  Option.bind (Qx p_s_L x14 100) (λr12=>
  Ff (fun(x29:ByteArray) (x30:Int) (x31:Int) (x32:ByteArray) (x33:ByteArray) (x34:ByteArray) (x35:Int) (x36:Int) (x37:Int) (x38:Int)=>
  Chk (Px x2.length) (
  Pj p_many p_s_L j1 m1 (Hp x1 r2.1 (W ((Eh x1 r2.1 0)+1))) (x2++[(Dt.mk x29 x30 (W (x4+r1.1)) x31 x32 x33 x34 x35 x36 x12 x37)]) x38 (W (x4+r1.1)) (W (x5+1)))) (λj7=>
  if r12.1 then
  Option.bind (Rw p_s_L r12.2 4) (λr13=>
  Ff (fun(x39:ByteArray) (x40:Int) (x41:Int) (x42:ByteArray) (x43:ByteArray) (x44:ByteArray) (x45:Int) (x46:Int) (x47:Int) (x48:Int)=>
  j7 x39 x40 x41 x42 x43 x44 x45 x46 x47 x48) (λj8=>
  Ff (fun(x49:ByteArray) (x50:Int) (x51:Int) (x52:ByteArray) (x53:ByteArray) (x54:ByteArray) (x55:Int) (x56:Int) (x57:Int) (x58:Int)=>
  j8 x49 x50 x51 x52 x53 x54 x55 x56 x57 x58) (λj9=>
  if decide (r13.1=0) then
  Option.bind (Pd p_s_L r13.2 [An,Sb]) (λr14=>
  Option.bind (Pz p_s_L r14.2 1 9) (λr15=>
  j9 r14.1 r15.1 r3.1 x6 x9 x7 x10 x11 x13 r15.2))
  else
  Ff (fun(x59:Int) (x60:ByteArray) (x61:ByteArray) (x62:ByteArray) (x63:Int) (x64:Int) (x65:Int) (x66:Int)=>
  j9 r2.1 (Eh (Hp x1 r2.1 (W ((Eh x1 r2.1 0)+1))) r2.1 0) x59 x60 x61 x62 x63 x64 x65 x66) (λj10=>
  if decide (r13.1=1) then
  Option.bind (Pz p_s_L r13.2 1 4) (λr16=>
  j10 r16.1 x6 x9 x7 x10 x11 x13 r16.2)
  else
  Ff (fun(x67:ByteArray) (x68:ByteArray) (x69:ByteArray) (x70:Int) (x71:Int) (x72:Int) (x73:Int)=>
  j10 r3.1 x67 x68 x69 x70 x71 x72 x73) (λj11=>
  if decide (r13.1=2) then
  Option.bind (Pd p_s_L r13.2 [An,Za]) (λr17=>
  Option.bind (Pd p_s_L r17.2 [k_A,Sv]) (λr18=>
  Option.bind (Pd p_s_L r18.2 [An,Po]) (λr19=>
  j11 r17.1 r18.1 r19.1 x10 x11 x13 r19.2)))
  else
  Option.bind (Pz p_s_L r13.2 0 360000) (λr20=>
  Option.bind (Pz p_s_L r20.2 0 8) (λr21=>
  Option.bind (Pz p_s_L r21.2 0 5) (λr22=>
  j11 x6 x9 x7 r20.1 r21.1 r22.1 r22.2))))))))
  else
  j7 r2.1 (Eh (Hp x1 r2.1 (W ((Eh x1 r2.1 0)+1))) r2.1 0) r3.1 x6 x9 x7 x10 x11 x13 r12.2))) (λj3=>
  Ff (fun(x15:ByteArray) (x16:Int) (x17:Int) (x18:ByteArray) (x19:Int) (x20:Int)=>
  j3 x15 x16 x17 x18 x19 x20) (λj4=>
  if decide (r3.1=1) then
  Option.bind (Pd p_s_L x8 [Sv,EQ,An]) (λr6=>
  Option.bind (Jz p_s_L r6.2 [0,5900,6000,7000]) (λr7=>
  j4 r6.1 r7.1 0 An 0 r7.2))
  else
  Ff (fun(x21:Int) (x22:Int) (x23:ByteArray) (x24:Int) (x25:Int)=>
  j4 An x21 x22 x23 x24 x25) (λj5=>
  if decide (r3.1=3) then
  Option.bind (Jz p_s_L x8 [0,5900,5900,6000,6100]) (λr8=>
  Option.bind (Jz p_s_L r8.2 [0,0,0,0,3]) (λr9=>
  j5 r8.1 r9.1 An 0 r9.2))
  else
  Ff (fun(x26:ByteArray) (x27:Int) (x28:Int)=>
  j5 0 0 x26 x27 x28) (λj6=>
  if decide (r3.1=4) then
  Option.bind (Pd p_s_L x8 [Sb,Sb,KN]) (λr10=>
  Option.bind (Oy p_s_L r10.2 1 (MU 1 (Eh (Hp x1 r2.1 (W ((Eh x1 r2.1 0)+1))) Sb 0))) (λr11=>
  j6 r10.1 r11.1 r11.2))
  else
  j6 An 0 x8))))) (λj2=>
  if !decide (r3.1=4) then
  Option.bind (Pd p_s_L r3.2 [Za,CG,LI,LJ]) (λr4=>
  Option.bind (Pd p_s_L r4.2 [Po,Po,Yz,VZ]) (λr5=>
  j2 r4.1 r5.1 r5.2))
  else
  j2 An An r3.2))))
  else
  j1 x1 x2 x3
def Zl(p_s_L:List Int)(p_s_at:Int)(p_many:Int):Option ((List Dt)×Int):=
  Ff (fun(x1:List (ByteArray×Int)) (x2:List Dt) (x3:Int)=>
  Option.bind (Ik x2) (λr23=>
  some (r23,x3))) (λj1=>
  Pj p_many p_s_L j1 ((p_many-0).toNat+2) ([]:List (ByteArray×Int)) ([]:List Dt) p_s_at 0 0)
def Tw(p_s_L:List Int)(p_s_at:Int)(p_many:Int):Option ((List Dt)×Int):=
  Option.bind (Qx p_s_L p_s_at 15) (λr1=>
  if r1.1 then
  Option.bind (Xt p_s_L r1.2) (λr2=>
  some (r2.1,r2.2))
  else
  Option.bind (Qx p_s_L r1.2 60) (λr3=>
  if r3.1 then
  Option.bind (Xd p_s_L r3.2) (λr4=>
  some (r4.1,r4.2))
  else
  Option.bind (Oy p_s_L r3.2 0 p_many) (λr5=>
  Option.bind (Zl p_s_L r5.2 r5.1) (λr6=>
  some (r6.1,r6.2)))))
def Us(p_s_L:List Int)(p_s_at:Int):Option (Int×Int):=
  Option.bind (Jz p_s_L p_s_at [0,3,10,20,40,60,60,(-1)]) (λr1=>
  some (r1.1,r1.2))
def Uw(s c:ByteArray):Option ByteArray:=
  Chk (decide (s.size<=9223372036854775807)) (Chk (decide (c.size<4294967281)) (Chk (c.data.toList.all λb=>decide (b.toNat<128)) (some ⟨(Lib.trimS s.data.toList c.data.toList).toArray⟩)))
def Gp(p_s:ByteArray):Option Bool:=
  Ff (fun(c1:Bool)=>
  Ff (fun(c2:Bool)=>
  Ff (fun(c3:Bool)=>
  some c3) (λj3=>
  if c2 then Option.bind (Uw p_s Hy) (λr1=>
  j3 (c2 && (decide (r1=An)))) else j3 (c2 && true))) (λj2=>
  if c1 then Chk (inB 0 p_s.size) (
  j2 (c1 && (decide ((CC p_s 0)<=122)))) else j2 (c1 && true))) (λj1=>
  if((decide (1<=(p_s.size:Int))) && (decide ((p_s.size:Int)<=40))) then Chk (inB 0 p_s.size) (
  j1 (((decide (1<=(p_s.size:Int))) && (decide ((p_s.size:Int)<=40))) && (decide (97<=(CC p_s 0))))) else j1 (((decide (1<=(p_s.size:Int))) && (decide ((p_s.size:Int)<=40))) && true))
def Ed(p_n:Int)(p_low:Int)(p_high:Int):Bool:=
  ((decide (p_low<=p_n)) && (decide (p_n<=p_high)))
def Mm(p_r:Ea):Option Int:=
  Option.bind (Gp p_r.Key) (λr1=>
  if !r1 then
  some 5
  else
  if((!(Ed p_r.Stroke 1 5))||(!(Ed p_r.Sex 0 2))) then
  some 4
  else
  if(((((((!decide (p_r.Course=25)) && (!decide (p_r.Course=50)))||(!(Ed p_r.Legs 1 4)))||(!(Ed p_r.Metres 25 1500)))||(decide (p_r.Young<0)))||(decide (p_r.Old<p_r.Young)))||(decide (120<p_r.Old))) then
  some 1
  else
  Chk (!decide (p_r.Course=0)) (
  if !decide ((Int.tmod p_r.Metres p_r.Course)=0) then
  some 3
  else
  Ff (fun(c1:Bool)=>
  Ff (fun(x1:Bool)=>
  if x1 then
  some 16
  else
  some 0) (λj2=>
  if c1 then
  j2 c1
  else
  j2 (((decide (p_r.Stroke=5)) && (decide (1<p_r.Legs))) && (!decide (p_r.Legs=4))))) (λj1=>
  if((decide (p_r.Stroke=5)) && (decide (p_r.Legs=1))) then Chk (!decide ((W (4*p_r.Course))=0)) (
  j1 (((decide (p_r.Stroke=5)) && (decide (p_r.Legs=1))) && (!decide ((Int.tmod p_r.Metres (W (4*p_r.Course)))=0)))) else j1 (((decide (p_r.Stroke=5)) && (decide (p_r.Legs=1))) && true))))
def Xe(p_x:Ea)(p_a1:Ea):Bool:=
  decide (p_x.Key=p_a1.Key)
def Gh(p_f_0:Ea)(j1:Int):List Ea->Nat->Int
  |[],_=>j1
  |y1::ys1,i1=>if(Xe y1 p_f_0) then
  (i1:Int)
  else
  Gh p_f_0 j1 ys1 (i1+1)
def Mj(p_s:List Ea)(p_f_0:Ea):Int:=
  Ff ((-1)) (λj1=>
  Gh p_f_0 j1 p_s 0)
def Jp(p_s:List Ea)(p_f_0:Ea):Bool:=
  decide (0<=(Mj p_s p_f_0))
def Lv(p_t:Jh)(j1:Option Int):List Int->Nat->Option Int
  |[],_=>j1
  |y1::ys1,i1=>if !(Ed y1 0 10000) then
  some 1
  else
  Ff (fun(c1:Bool)=>
  if c1 then
  some 7
  else
  Lv p_t j1 ys1 (i1+1)) (λj2=>
  if(decide (0<(i1:Int))) then Chk (inB (W ((i1:Int)-1)) p_t.Points.length) (
  j2 ((decide (0<(i1:Int))) && (decide ((nth p_t.Points (W ((i1:Int)-1)))<y1)))) else j2 ((decide (0<(i1:Int))) && true))
def Rl(p_t:Jh):Option Int:=
  if decide (40<(p_t.Points.length:Int)) then
  some 2
  else
  Ff (if((!(Ed p_t.Relay 1 10))||(!(Ed p_t.Most 0 10))) then
  some 1
  else
  some 0) (λj1=>
  Lv p_t j1 p_t.Points 0)
def Ut(p_f:Qe):Int:=
  if(((!(Ed p_f.Size 1 10))||(!(Ed p_f.Many 1 5)))||(!(Ed p_f.Reserves 0 10))) then
  1
  else
  0
def Nw(p_p:Iq)(j1:Option Int):List Ea->Nat->Option Int
  |[],_=>j1
  |y1::ys1,i1=>Option.bind (Mm y1) (λr1=>
  if !decide (r1=0) then
  some r1
  else
  Chk (DO 0 (i1:Int) p_p.Races.length) (
  if(Jp (cut p_p.Races 0 (i1:Int)) y1) then
  some 6
  else
  Nw p_p j1 ys1 (i1+1)))
def Vz(p_p:Iq):Option Int:=
  if decide (100<(p_p.Races.length:Int)) then
  some 2
  else
  Ff (Option.bind (Rl p_p.Table) (λr2=>
  if !decide (r2=0) then
  some r2
  else
  some (Ut p_p.Final))) (λj1=>
  Nw p_p j1 p_p.Races 0)
def Ji(p_n:Int):Bool:=
  ((decide (0<=p_n)) && (decide (p_n<345686400000)))
def Tx(p_x:Dt):Option Int:=
  Option.bind (Gp p_x.Site) (λr1=>
  if !r1 then
  some 5
  else
  if((!(Ed p_x.No 1 1000000))||(!(Ji p_x.At))) then
  some 1
  else
  if !(Ed p_x.Kind 1 4) then
  some 4
  else
  Ff (fun(c1:Bool)=>
  Ff (fun(x1:Bool)=>
  if x1 then
  some 5
  else
  Ff (fun(x2:Bool)=>
  if x2 then
  some 1
  else
  Ff (fun(c4:Bool)=>
  if c4 then
  some 5
  else
  if((decide (p_x.Kind=4)) && (!(Ed p_x.Other 1 1000000))) then
  some 1
  else
  Ff (fun(x3:ByteArray) (x4:ByteArray) (x5:ByteArray) (x6:Int) (x7:Int) (x8:ByteArray) (x9:Int)=>
  if !decide (p_x=(Dt.mk p_x.Site p_x.No p_x.At p_x.Kind x3 x4 x5 x6 x7 x8 x9)) then
  some 3
  else
  some 0) (λj7=>
  Ff (fun(x10:ByteArray) (x11:ByteArray) (x12:ByteArray) (x13:Int) (x14:Int) (x15:ByteArray) (x16:Int)=>
  j7 x10 x11 x12 x13 x14 x15 x16) (λj8=>
  if decide (p_x.Kind=1) then
  j8 p_x.Who p_x.Club p_x.Race p_x.Time 0 An 0
  else
  Ff (fun(x17:ByteArray) (x18:ByteArray) (x19:Int) (x20:Int) (x21:ByteArray) (x22:Int)=>
  j8 x17 An x18 x19 x20 x21 x22) (λj9=>
  if decide (p_x.Kind=3) then
  j9 p_x.Who p_x.Race p_x.Time p_x.Fault An 0
  else
  Ff (fun(x23:ByteArray) (x24:ByteArray) (x25:ByteArray) (x26:Int)=>
  j9 x23 x24 0 0 x25 x26) (λj10=>
  if decide (p_x.Kind=4) then
  j10 An An p_x.Of p_x.Other
  else
  j10 p_x.Who p_x.Race An 0))))) (λj6=>
  if(decide (p_x.Kind=4)) then Option.bind (Gp p_x.Of) (λr5=>
  j6 ((decide (p_x.Kind=4)) && (!r5))) else j6 ((decide (p_x.Kind=4)) && true))) (λj5=>
  if(((decide (p_x.Kind=1))||(decide (p_x.Kind=3))) && (!(Ed p_x.Time 0 360000))) then
  j5 (((decide (p_x.Kind=1))||(decide (p_x.Kind=3))) && (!(Ed p_x.Time 0 360000)))
  else
  j5 ((decide (p_x.Kind=3)) && (!(Ed p_x.Fault 0 8))))) (λj3=>
  if c1 then
  j3 c1
  else
  Ff (fun(c3:Bool)=>
  j3 c3) (λj4=>
  if((decide (p_x.Kind=1)) && (!decide (p_x.Club=An))) then Option.bind (Gp p_x.Club) (λr4=>
  j4 (((decide (p_x.Kind=1)) && (!decide (p_x.Club=An))) && (!r4))) else j4 (((decide (p_x.Kind=1)) && (!decide (p_x.Club=An))) && true)))) (λj1=>
  if(!(decide (p_x.Kind=4))) then Option.bind (Gp p_x.Who) (λr2=>
  Ff (fun(c2:Bool)=>
  j1 ((!(decide (p_x.Kind=4))) && c2)) (λj2=>
  if(!r2) then j2 ((!r2)||true) else Option.bind (Gp p_x.Race) (λr3=>
  j2 ((!r2)||(!r3))))) else j1 ((!(decide (p_x.Kind=4))) && true)))
def Wv(p_x:Int):Bool:=
  !decide (p_x=p_x)
def Ma(p_x:Int)(p_y:Int):Int:=
  if(Wv p_x) then
  if(Wv p_y) then
  0
  else
  (-1)
  else
  if(Wv p_y) then
  1
  else
  if decide (p_x<p_y) then
  (-1)
  else
  if decide (p_y<p_x) then
  1
  else
  0
def On(j1:Int):List Int->Nat->Int
  |[],_=>j1
  |y1::ys1,i1=>if !decide (y1=0) then
  y1
  else
  On j1 ys1 (i1+1)
def Xl(p_vals:List Int):Int:=
  Ff (0) (λj1=>
  On j1 p_vals 0)
def Pp(p_a:Dt)(p_b:Dt):Int:=
  (Xl [(Ma p_a.At p_b.At),(Gv p_a.Site p_b.Site),(Ma p_a.No p_b.No)])
def Es(p_x:Dt):Ev:=
  (Ev.mk p_x.Site p_x.No)
def Iw(p_l:List Dt)(j1:(List (Ev×Bool))->Bool->Option Int):List Dt->Nat->(List (Ev×Bool))->Bool->Option Int
  |[],_,x1,x2=>j1 x1 x2
  |y1::ys1,i1,x1,x2=>Option.bind (Tx y1) (λr1=>
  if !decide (r1=0) then
  some r1
  else
  Ff (fun(x3:Bool)=>
  if x3 then
  some 7
  else
  Iw p_l j1 ys1 (i1+1) (Hp x1 (Es y1) true) (x2||(Eh x1 (Es y1) false))) (λj2=>
  if decide (0<(i1:Int)) then
  Chk (inB (W ((i1:Int)-1)) p_l.length) (
  j2 (decide (0<=(Pp (nth p_l (W ((i1:Int)-1))) y1))))
  else
  j2 false))
def Rx(p_l:List Dt):Option Int:=
  if decide (2000<(p_l.length:Int)) then
  some 2
  else
  Ff (fun(x1:List (Ev×Bool)) (x2:Bool)=>
  if x2 then
  some 6
  else
  some 0) (λj1=>
  Iw p_l j1 p_l 0 ([]:List (Ev×Bool)) false)
def Lc(j1:(List Int)->Option (List Int)):Nat->(List Int)->Int->Int->Option (List Int)
  |0,_,_,_=>none
  |m1+1,x1,x2,x3=>if decide (x2<x3) then
  Chk (inB x3 x1.length) (
  Chk (inB x2 x1.length) (
  Chk (inB x2 x1.length) (
  Chk (inB x3 (x1.set x2.toNat (nth x1 x3)).length) (
  Lc j1 m1 ((x1.set x2.toNat (nth x1 x3)).set x3.toNat (nth x1 x2)) (W (x2+1)) (W (x3-1))))))
  else
  j1 x1
def Sj(p_s:List Int):Option (List Int):=
  Ff (fun(x1:List Int)=>
  some x1) (λj1=>
  Lc j1 (((W ((p_s.length:Int)-1))-0).toNat+2) p_s 0 (W ((p_s.length:Int)-1)))
  def AA (l:List Dt) (at_:Int) (i:Nat) (m:List (Ev×Bool)):Bool:=decide (at_<(nth l (i:Int)).At)||Eh m (Es (nth l (i:Int))) false
def Mn(l:List Dt)(at_:Int):List Nat->List (Ev×Bool)->List Int->Option (List Int)
  |[],_,x=>Sj x
  |i::is,m,x=>if AA l at_ i m then Mn l at_ is m x else
    Chk (Px x.length) (Mn l at_ is (if decide ((nth l (i:Int)).Kind=4) then Hp m (Ev.mk ((nth l (i:Int)).Of) ((nth l (i:Int)).Other)) true else m) (x++[(i:Int)]))
def Ym(l:List Dt)(at_:Int):Option (List Int):=Mn l at_ (Wx l.length) [] []
def Og(p_l:List Dt)(j1:(List Dt)->Option (Option Kq)):List Int->Nat->(List Dt)->Option (Option Kq)
  |[],_,x1=>j1 x1
  |y1::ys1,i1,x1=>Chk (inB y1 p_l.length) (
  Chk (Px x1.length) (
  Og p_l j1 ys1 (i1+1) (x1++[(nth p_l y1)])))
def Xu(p_p:Iq)(p_l:List Dt)(p_at:Int):Option (Option Kq):=
  Option.bind (Ym p_l p_at) (λr1=>
  Ff (fun(x1:List Dt)=>
  some (some (Kq.mk p_p x1))) (λj1=>
  Og p_l j1 r1 0 ([]:List Dt)))
def Pq(j1:Option ((Option Kq)×Int)):List Int->Nat->Option ((Option Kq)×Int)
  |[],_=>j1
  |y1::ys1,i1=>if !(Ji y1) then
  some (none,1)
  else
  Pq j1 ys1 (i1+1)
def Uu(p_p:Iq)(p_l:List Dt)(p_at:List Int):Option ((Option Kq)×Int):=
  Option.bind (Vz p_p) (λr1=>
  if !decide (r1=0) then
  some (none,r1)
  else
  Option.bind (Rx p_l) (λr2=>
  if !decide (r2=0) then
  some (none,r2)
  else
  Ff (Chk (inB (W ((p_at.length:Int)-1)) p_at.length) (
  Option.bind (Xu p_p p_l (nth p_at (W ((p_at.length:Int)-1)))) (λr3=>
  some (r3,0)))) (λj1=>
  Pq j1 p_at 0)))
def Yn(p_r:Ea)(p_a1:ByteArray):Bool:=
  decide (p_r.Key=p_a1)
def Fv(p_f_0:ByteArray)(j1:Int):List Ea->Nat->Int
  |[],_=>j1
  |y1::ys1,i1=>if(Yn y1 p_f_0) then
  (i1:Int)
  else
  Fv p_f_0 j1 ys1 (i1+1)
def Fy(p_s:List Ea)(p_f_0:ByteArray):Int:=
  Ff ((-1)) (λj1=>
  Fv p_f_0 j1 p_s 0)
def Wa(p_a:Dt)(p_b:Dt):Int:=
  (Gv p_a.Who p_b.Who)
open Classical in
def La(p_x:List Dt):Option (List Dt):=if IY Wa p_x/\p_x.length<4611686018427387904 then some (Qd Wa p_x) else none
def Nk(p_race:ByteArray)(j1:(List (ByteArray×Dt))->Option (List Dt)):List Dt->Nat->(List (ByteArray×Dt))->Option (List Dt)
  |[],_,x1=>j1 x1
  |y1::ys1,i1,x1=>Ff (fun(x2:List (ByteArray×Dt))=>
  Nk p_race j1 ys1 (i1+1) x2) (λj2=>
  if !decide (y1.Race=p_race) then
  j2 x1
  else
  Ff (fun(x3:List (ByteArray×Dt))=>
  j2 x3) (λj3=>
  Ff (fun(x4:List (ByteArray×Dt))=>
  j3 x4) (λj4=>
  if decide (y1.Kind=1) then
  j4 (Hp x1 y1.Who y1)
  else
  Ff (fun(x5:List (ByteArray×Dt))=>
  j4 x5) (λj5=>
  if decide (y1.Kind=2) then
  j5 (CR x1 y1.Who)
  else
  j5 x1))))
def Oo(j6:(List Dt)->Option (List Dt)):List (ByteArray×Dt)->(List Dt)->Option (List Dt)
  |[],x6=>j6 x6
  |y2::ys2,x6=>Option.bind (α:=(List Dt)) (
  Chk (Px x6.length) (
  some (x6++[y2.2]))) (λs=>Oo j6 ys2 s)
def Tp(p_s_p:Iq)(p_s_deeds:List Dt)(p_race:ByteArray):Option (List Dt):=
  Ff (fun(x1:List (ByteArray×Dt))=>
  Ff (fun(x6:List Dt)=>
  Option.bind (La x6) (λr1=>
  some r1)) (λj6=>
  AllP x1 (λp=>Oo j6 p ([]:List Dt)))) (λj1=>
  Nk p_race j1 p_s_deeds 0 ([]:List (ByteArray×Dt)))
def Xm(p_s_p:Iq)(p_s_deeds:List Dt)(p_key:ByteArray):Option (Ea×Int):=
  if decide ((Fy p_s_p.Races p_key)<0) then
  some ((Ea.mk An 0 0 0 0 0 0 0),8)
  else
  Option.bind (Tp p_s_p p_s_deeds p_key) (λr1=>
  if decide (300<(r1.length:Int)) then
  some ((Ea.mk An 0 0 0 0 0 0 0),2)
  else
  Chk (inB (Fy p_s_p.Races p_key) p_s_p.Races.length) (
  some ((nth p_s_p.Races (Fy p_s_p.Races p_key)),0)))
def So(p_s_p:Iq)(p_s_deeds:List Dt)(j1:Option Int):List Ea->Nat->Option Int
  |[],_=>j1
  |y1::ys1,i1=>Option.bind (Xm p_s_p p_s_deeds y1.Key) (λr1=>
  if !decide (r1.2=0) then
  some r1.2
  else
  So p_s_p p_s_deeds j1 ys1 (i1+1))
def AB(p_s_p:Iq)(p_s_deeds:List Dt):Option Int:=
  Ff (some 0) (λj1=>
  So p_s_p p_s_deeds j1 p_s_p.Races 0)
def Zb(p_x:Dt)(p_a1:ByteArray):Bool:=
  decide (p_x.Who=p_a1)
def Fo(p_f_0:ByteArray)(j1:Int):List Dt->Nat->Int
  |[],_=>j1
  |y1::ys1,i1=>if(Zb y1 p_f_0) then
  (i1:Int)
  else
  Fo p_f_0 j1 ys1 (i1+1)
def Jl(p_s:List Dt)(p_f_0:ByteArray):Int:=
  Ff ((-1)) (λj1=>
  Fo p_f_0 j1 p_s 0)
def Rh(p_race:ByteArray)(j1:(List (ByteArray×Dt))->(List (ByteArray×Dt))):List Dt->Nat->(List (ByteArray×Dt))->(List (ByteArray×Dt))
  |[],_,x1=>j1 x1
  |y1::ys1,i1,x1=>Ff (fun(x2:List (ByteArray×Dt))=>
  Rh p_race j1 ys1 (i1+1) x2) (λj2=>
  Ff (fun(x3:List (ByteArray×Dt))=>
  j2 x3) (λj3=>
  if((decide (y1.Race=p_race)) && (decide (y1.Kind=3))) then
  j3 (Hp x1 y1.Who y1)
  else
  j3 x1))
def Kh(p_s_p:Iq)(p_s_deeds:List Dt)(p_race:ByteArray):(List (ByteArray×Dt)):=
  Ff (fun(x1:List (ByteArray×Dt))=>
  x1) (λj1=>
  Rh p_race j1 p_s_deeds 0 ([]:List (ByteArray×Dt)))
def Mz(j1:(List (ByteArray×Bool))->Bool->Option Int):List Jn->Nat->(List (ByteArray×Bool))->Bool->Option Int
  |[],_,x1,x2=>j1 x1 x2
  |y1::ys1,i1,x1,x2=>Option.bind (Gp y1.Who) (λr1=>
  if !r1 then
  some 5
  else
  if !(Ed y1.Time 0 360000) then
  some 1
  else
  Mz j1 ys1 (i1+1) (Hp x1 y1.Who true) (x2||(Eh x1 y1.Who false)))
def Wr(p_l:List Jn):Option Int:=
  if decide (300<(p_l.length:Int)) then
  some 2
  else
  Ff (fun(x1:List (ByteArray×Bool)) (x2:Bool)=>
  if x2 then
  some 6
  else
  some 0) (λj1=>
  Mz j1 p_l 0 ([]:List (ByteArray×Bool)) false)
def Kl(p_v:List Jg)(j1:Option Int):List Jg->Nat->Option Int
  |[],_=>j1
  |y1::ys1,i1=>Option.bind (Gp y1.Who) (λr2=>
  if !r2 then
  some 5
  else
  if !(Ed y1.Fault 0 8) then
  some 4
  else
  Ff (fun(c1:Bool)=>
  if c1 then
  some 7
  else
  Kl p_v j1 ys1 (i1+1)) (λj2=>
  if(decide (0<(i1:Int))) then Chk (inB (W ((i1:Int)-1)) p_v.length) (
  j2 ((decide (0<(i1:Int))) && (PD y1.Who ((nth p_v (W ((i1:Int)-1))).Who)||decide (y1.Who=((nth p_v (W ((i1:Int)-1))).Who))))) else j2 ((decide (0<(i1:Int))) && true)))
def Ti(p_v:List Jg):Option Int:=
  if decide (300<(p_v.length:Int)) then
  some 2
  else
  Ff (some 0) (λj1=>
  Kl p_v j1 p_v 0)
def Yo(p_a:Dw)(p_b:Dw)(p_a2:Int):Option Int:=
  Chk (!decide (p_a2=0)) (
  Chk (!decide (p_a2=0)) (
  some (W ((W (Int.tdiv p_a.Time p_a2))-(W (Int.tdiv p_b.Time p_a2))))))
def Eu(p_a:Int)(p_cmp_0:Int)(j2:(List Dw)->Option (List Dw)):Nat->(List Dw)->Int->Option (List Dw)
  |0,_,_=>none
  |m2+1,x3,x4=>Ff (fun(x5:Bool)=>
  if x5 then
  Chk (inB (W (x4-1)) x3.length) (
  Chk (inB x4 x3.length) (
  Chk (inB x4 x3.length) (
  Chk (inB (W (x4-1)) (x3.set x4.toNat (nth x3 (W (x4-1)))).length) (
  Eu p_a p_cmp_0 j2 m2 ((x3.set x4.toNat (nth x3 (W (x4-1)))).set ((W (x4-1)).toNat) (nth x3 x4)) (W (x4-1))))))
  else
  j2 x3) (λj3=>
  if decide (p_a<x4) then
  Chk (inB x4 x3.length) (
  Chk (inB (W (x4-1)) x3.length) (
  Option.bind (Yo (nth x3 x4) (nth x3 (W (x4-1))) p_cmp_0) (λr1=>
  j3 (decide (r1<0)))))
  else
  j3 false)
def Fk(p_b:Int)(p_a:Int)(p_cmp_0:Int)(j1:(List Dw)->Option (List Dw)):Nat->(List Dw)->Int->Option (List Dw)
  |0,_,_=>none
  |m1+1,x1,x2=>if decide (x2<p_b) then
  Ff (fun(x3:List Dw)=>
  Fk p_b p_a p_cmp_0 j1 m1 x3 (W (x2+1))) (λj2=>
  Eu p_a p_cmp_0 j2 ((x2-p_a).toNat+2) x1 x2)
  else
  j1 x1
def Ig(p_data:List Dw)(p_a:Int)(p_b:Int)(p_cmp_0:Int):Option (List Dw):=
  Ff (fun(x1:List Dw)=>
  some x1) (λj1=>
  Fk p_b p_a p_cmp_0 j1 ((p_b-(W (p_a+1))).toNat+2) p_data (W (p_a+1)))
def Gq(p_n:Int)(p_cmp_0:Int)(j1:(List Dw)->Int->Option (List Dw)):Nat->(List Dw)->Int->Int->Option (List Dw)
  |0,_,_,_=>none
  |m1+1,x1,x2,x3=>if decide (x3<=p_n) then
  Option.bind (Ig x1 x2 x3 p_cmp_0) (λr1=>
  Gq p_n p_cmp_0 j1 m1 r1 x3 (W (x3+20)))
  else
  j1 x1 x2
def Hz(p_n:Int)(j3:Int->Option (List Dw)):Nat->Int->Int->Option (List Dw)
  |0,_,_=>none
  |_+1,x5,x6=>if decide (x6<=p_n) then
  none
  else
  j3 x5
def Gt(p_n:Int)(j2:Option (List Dw)):Nat->Int->Option (List Dw)
  |0,_=>none
  |m2+1,x4=>if decide (x4<p_n) then
  Ff (fun(x5:Int)=>
  if decide ((W (x5+x4))<p_n) then
  none
  else
  Gt p_n j2 m2 (W (x4*2))) (λj3=>
  Hz p_n j3 ((p_n-(W (2*x4))).toNat+2) 0 (W (2*x4)))
  else
  j2
def Mb(p_data:List Dw)(p_n:Int)(p_cmp_0:Int):Option (List Dw):=
  Ff (fun(x1:List Dw) (x2:Int)=>
  Option.bind (Ig x1 x2 p_n p_cmp_0) (λr2=>
  Ff (some r2) (λj2=>
  Gt p_n j2 ((p_n-20).toNat+2) 20))) (λj1=>
  Gq p_n p_cmp_0 j1 ((p_n-20).toNat+2) p_data 0 20)
def Jq(p_x:List Dw)(p_cmp_0:Int):Option (List Dw):=
  Option.bind (Mb p_x (p_x.length:Int) p_cmp_0) (λr1=>
  some r1)
def Ri(j1:(List (ByteArray×Int))->Option ((List Dw)×Int)):List Jg->Nat->(List (ByteArray×Int))->Option ((List Dw)×Int)
  |[],_,x1=>j1 x1
  |y1::ys1,i1,x1=>Ri j1 ys1 (i1+1) (Hp x1 y1.Who y1.Fault)
def Qg(x1:List (ByteArray×Int))(j2:(List Dw)->(List Dw)->Option ((List Dw)×Int)):List Jn->Nat->(List Dw)->(List Dw)->Option ((List Dw)×Int)
  |[],_,x2,x3=>j2 x2 x3
  |y2::ys2,i2,x2,x3=>Ff (fun(x4:List Dw) (x5:List Dw)=>
  Qg x1 j2 ys2 (i2+1) x4 x5) (λj3=>
  Ff (fun(x6:List Dw) (x7:List Dw)=>
  j3 x6 x7) (λj4=>
  if((decide ((Eh x1 y2.Who 0)=0)) && (decide (0<y2.Time))) then
  Chk (Px x3.length) (
  j4 x2 (x3++[(Dw.mk y2.Who 0 y2.Time (Eh x1 y2.Who 0))]))
  else
  Chk (Px x2.length) (
  j4 (x2++[(Dw.mk y2.Who 0 y2.Time (Eh x1 y2.Who 0))]) x3)))
def Qh(p_by:Int)(j5:(List Dw)->Option ((List Dw)×Int)):List Dw->Nat->(List Dw)->Option ((List Dw)×Int)
  |[],_,x8=>j5 x8
  |_::ys3,i3,x8=>Ff (fun(x9:List Dw)=>
  Qh p_by j5 ys3 (i3+1) x9) (λj6=>
  Ff (fun(c1:Bool)=>
  Ff (fun(x10:List Dw)=>
  j6 x10) (λj8=>
  if c1 then
  Chk (inB (W ((i3:Int)-1)) x8.length) (
  Chk (inB (i3:Int) x8.length) (
  j8 (x8.set ((i3:Int).toNat) (Dw.mk ((nth x8 (i3:Int)).Who) ((nth x8 (W ((i3:Int)-1))).Rank) ((nth x8 (i3:Int)).Time) ((nth x8 (i3:Int)).Fault)))))
  else
  Chk (inB (i3:Int) x8.length) (
  j8 (x8.set ((i3:Int).toNat) (Dw.mk ((nth x8 (i3:Int)).Who) (W ((i3:Int)+1)) ((nth x8 (i3:Int)).Time) ((nth x8 (i3:Int)).Fault)))))) (λj7=>
  if(decide (0<(i3:Int))) then Chk (inB (i3:Int) x8.length) (
  Chk (!decide (p_by=0)) (
  Chk (inB (W ((i3:Int)-1)) x8.length) (
  Chk (!decide (p_by=0)) (
  j7 ((decide (0<(i3:Int))) && (decide ((W (Int.tdiv ((nth x8 (i3:Int)).Time) p_by))=(W (Int.tdiv ((nth x8 (W ((i3:Int)-1))).Time) p_by))))))))) else j7 ((decide (0<(i3:Int))) && true)))
def DU(p_l:List Jn)(p_v:List Jg)(p_by:Int):Option ((List Dw)×Int):=
  Option.bind (Wr p_l) (λr1=>
  if !decide (r1=0) then
  some (([]:List Dw),r1)
  else
  Option.bind (Ti p_v) (λr2=>
  if !decide (r2=0) then
  some (([]:List Dw),r2)
  else
  Ff (fun(x1:List (ByteArray×Int))=>
  Ff (fun(x2:List Dw) (x3:List Dw)=>
  Option.bind (Jq x3 p_by) (λr4=>
  Ff (fun(x8:List Dw)=>
  Chk (decide (x8.length+x2.length<1073741824)) (
  some ((x8++x2),0))) (λj5=>
  Qh p_by j5 r4 0 r4))) (λj2=>
  Qg x1 j2 p_l 0 ([]:List Dw) ([]:List Dw))) (λj1=>
  Ri j1 p_v 0 ([]:List (ByteArray×Int)))))
def AC(p_l:List Jn)(p_v:List Jg):Option ((List Dw)×Int):=
  Option.bind (DU p_l p_v 1) (λr1=>
  some (r1.1,r1.2))
def Oh(p_s_p:Iq)(p_s_deeds:List Dt)(p_race:ByteArray)(j1:(List Jg)->(List Jn)->(List (ByteArray×ByteArray))->Option ((List Dw)×(List (ByteArray×ByteArray))×Int)):List Dt->Nat->(List Jg)->(List Jn)->(List (ByteArray×ByteArray))->Option ((List Dw)×(List (ByteArray×ByteArray))×Int)
  |[],_,x1,x2,x3=>j1 x1 x2 x3
  |y1::ys1,i1,x1,x2,x3=>Ff (fun(x4:List Jg) (x5:List Jn) (x6:List (ByteArray×ByteArray))=>
  Oh p_s_p p_s_deeds p_race j1 ys1 (i1+1) x4 x5 x6) (λj2=>
  if !((Vi (Kh p_s_p p_s_deeds p_race) y1.Who).isSome) then
  j2 x1 x2 x3
  else
  Chk (Px x2.length) (
  Ff (fun(x7:List Jg)=>
  j2 x7 (x2++[(Jn.mk y1.Who ((Eh (Kh p_s_p p_s_deeds p_race) y1.Who (Dt.mk An 0 0 0 An An An 0 0 An 0)).Time))]) (Hp x3 y1.Who y1.Club)) (λj3=>
  if decide (0<((Eh (Kh p_s_p p_s_deeds p_race) y1.Who (Dt.mk An 0 0 0 An An An 0 0 An 0)).Fault)) then
  Chk (Px x1.length) (
  j3 (x1++[(Jg.mk y1.Who ((Eh (Kh p_s_p p_s_deeds p_race) y1.Who (Dt.mk An 0 0 0 An An An 0 0 An 0)).Fault) ([]:List ByteArray))]))
  else
  j3 x1)))
def Zm(p_s_p:Iq)(p_s_deeds:List Dt)(p_race:ByteArray):Option ((List Dw)×(List (ByteArray×ByteArray))×Int):=
  Option.bind (Tp p_s_p p_s_deeds p_race) (λr1=>
  Ff (fun(x1:List Jg) (x2:List Jn) (x3:List (ByteArray×ByteArray))=>
  Option.bind (AC x2 x1) (λr2=>
  some (r2.1,x3,r2.2))) (λj1=>
  Oh p_s_p p_s_deeds p_race j1 r1 0 ([]:List Jg) ([]:List Jn) ([]:List (ByteArray×ByteArray))))
def Ps(p_a:Du)(p_b:Du):Int:=
  if !decide ((decide (p_a.Rank=0))=(decide (p_b.Rank=0))) then
  W (p_b.Rank-p_a.Rank)
  else
  if !decide (p_a.Rank=p_b.Rank) then
  W (p_a.Rank-p_b.Rank)
  else
  (Gv p_a.Who p_b.Who)
def Ep(p_a:Int)(j2:(List Du)->Option (List Du)):Nat->(List Du)->Int->Option (List Du)
  |0,_,_=>none
  |m2+1,x3,x4=>Ff (fun(x5:Bool)=>
  if x5 then
  Chk (inB (W (x4-1)) x3.length) (
  Chk (inB x4 x3.length) (
  Chk (inB x4 x3.length) (
  Chk (inB (W (x4-1)) (x3.set x4.toNat (nth x3 (W (x4-1)))).length) (
  Ep p_a j2 m2 ((x3.set x4.toNat (nth x3 (W (x4-1)))).set ((W (x4-1)).toNat) (nth x3 x4)) (W (x4-1))))))
  else
  j2 x3) (λj3=>
  if decide (p_a<x4) then
  Chk (inB x4 x3.length) (
  Chk (inB (W (x4-1)) x3.length) (
  j3 (decide ((Ps (nth x3 x4) (nth x3 (W (x4-1))))<0))))
  else
  j3 false)
def Fd(p_b:Int)(p_a:Int)(j1:(List Du)->Option (List Du)):Nat->(List Du)->Int->Option (List Du)
  |0,_,_=>none
  |m1+1,x1,x2=>if decide (x2<p_b) then
  Ff (fun(x3:List Du)=>
  Fd p_b p_a j1 m1 x3 (W (x2+1))) (λj2=>
  Ep p_a j2 ((x2-p_a).toNat+2) x1 x2)
  else
  j1 x1
def Hu(p_data:List Du)(p_a:Int)(p_b:Int):Option (List Du):=
  Ff (fun(x1:List Du)=>
  some x1) (λj1=>
  Fd p_b p_a j1 ((p_b-(W (p_a+1))).toNat+2) p_data (W (p_a+1)))
def Gf(p_n:Int)(j1:(List Du)->Int->Option (List Du)):Nat->(List Du)->Int->Int->Option (List Du)
  |0,_,_,_=>none
  |m1+1,x1,x2,x3=>if decide (x3<=p_n) then
  Option.bind (Hu x1 x2 x3) (λr1=>
  Gf p_n j1 m1 r1 x3 (W (x3+20)))
  else
  j1 x1 x2
def Hm(p_n:Int)(j3:Int->Option (List Du)):Nat->Int->Int->Option (List Du)
  |0,_,_=>none
  |_+1,x5,x6=>if decide (x6<=p_n) then
  none
  else
  j3 x5
def Gg(p_n:Int)(j2:Option (List Du)):Nat->Int->Option (List Du)
  |0,_=>none
  |m2+1,x4=>if decide (x4<p_n) then
  Ff (fun(x5:Int)=>
  if decide ((W (x5+x4))<p_n) then
  none
  else
  Gg p_n j2 m2 (W (x4*2))) (λj3=>
  Hm p_n j3 ((p_n-(W (2*x4))).toNat+2) 0 (W (2*x4)))
  else
  j2
def Lb(p_data:List Du)(p_n:Int):Option (List Du):=
  Ff (fun(x1:List Du) (x2:Int)=>
  Option.bind (Hu x1 x2 p_n) (λr2=>
  Ff (some r2) (λj2=>
  Gg p_n j2 ((p_n-20).toNat+2) 20))) (λj1=>
  Gf p_n j1 ((p_n-20).toNat+2) p_data 0 20)
def Hs(p_x:List Du):Option (List Du):=
  Option.bind (Lb p_x (p_x.length:Int)) (λr1=>
  some r1)
def Nh(p_a:Int)(p_b:Int):Int:=
  Ff (fun(x1:Int)=>
  Ff (fun(x2:Int)=>
  W (x1-x2)) (λj2=>
  if decide (p_b=0) then
  j2 301
  else
  j2 p_b)) (λj1=>
  if decide (p_a=0) then
  j1 301
  else
  j1 p_a)
def Sw(p_a:Du)(p_b:Du):Int:=
  (Xl [(Gv p_a.Race p_b.Race),(Nh p_a.Rank p_b.Rank),(Gv p_a.Who p_b.Who)])
def Pk(p_l:List Du)(x2:Int)(j2:Int->Option (List (List Du))):Nat->Int->Option (List (List Du))
  |0,_=>none
  |m2+1,x3=>Ff (fun(c1:Bool)=>
  if c1 then
  Pk p_l x2 j2 m2 (W (x3+1))
  else
  j2 x3) (λj3=>
  if(decide (x3<(p_l.length:Int))) then Chk (inB x3 p_l.length) (
  Chk (inB x2 p_l.length) (
  j3 ((decide (x3<(p_l.length:Int))) && (decide (((nth p_l x3).Race)=((nth p_l x2).Race)))))) else j3 ((decide (x3<(p_l.length:Int))) && true))
def Nj(p_l:List Du)(j1:(List (List Du))->Option (List (List Du))):Nat->(List (List Du))->Int->Option (List (List Du))
  |0,_,_=>none
  |m1+1,x1,x2=>if decide (x2<(p_l.length:Int)) then
  Ff (fun(x3:Int)=>
  Chk (DO x2 x3 p_l.length) (
  Chk (Px x1.length) (
  Nj p_l j1 m1 (x1++[cut p_l x2 x3]) x3))) (λj2=>
  Pk p_l x2 j2 (((p_l.length:Int)-(W (x2+1))).toNat+2) (W (x2+1)))
  else
  j1 x1
def To(p_l:List Du):Option (List (List Du)):=
  Ff (fun(x1:List (List Du))=>
  some x1) (λj1=>
  Nj p_l j1 (((p_l.length:Int)-0).toNat+2) ([]:List (List Du)) 0)
def Wi(p_x:Du)(p_a1:List Du):Option Bool:=
  Chk (inB 0 p_a1.length) (
  some (!decide (p_x.Relay=((nth p_a1 0).Relay))))
def Fp(p_f_0:List Du)(j1:Option Int):List Du->Nat->Option Int
  |[],_=>j1
  |y1::ys1,i1=>Option.bind (Wi y1 p_f_0) (λr1=>
  if r1 then
  some (i1:Int)
  else
  Fp p_f_0 j1 ys1 (i1+1))
def Lq(p_s:List Du)(p_f_0:List Du):Option Int:=
  Ff (some (-1)) (λj1=>
  Fp p_f_0 j1 p_s 0)
def Kv(p_s:List Du)(p_f_0:List Du):Option Bool:=
  Option.bind (Lq p_s p_f_0) (λr1=>
  some (decide (0<=r1)))
def Lh(j1:(List (Fl×Bool))->Option Int):List Du->Nat->(List (Fl×Bool))->Option Int
  |[],_,x1=>j1 x1
  |y1::ys1,i1,x1=>if Eh x1 (Fl.mk y1.Race y1.Who) false then
  some 6
  else
  Lh j1 ys1 (i1+1) (Hp x1 (Fl.mk y1.Race y1.Who) true)
def Me(j2:Option Int):List (List Du)->Nat->Option Int
  |[],_=>j2
  |y2::ys2,i2=>Option.bind (Kv y2 y2) (λr3=>
  if r3 then
  some 3
  else
  Me j2 ys2 (i2+1))
def Mf(y3:(List Du))(j4:Option Int):List Du->Nat->Option Int
  |[],_=>j4
  |y4::ys4,i4=>Ff (fun(c1:Bool)=>
  if c1 then
  some 16
  else
  Mf y3 j4 ys4 (i4+1)) (λj5=>
  if((decide (0<y4.Rank)) && (!decide (y4.Rank=(W ((i4:Int)+1))))) then Ff (fun(c2:Bool)=>
  j5 (((decide (0<y4.Rank)) && (!decide (y4.Rank=(W ((i4:Int)+1))))) && c2)) (λj6=>
  if(decide ((i4:Int)=0)) then j6 ((decide ((i4:Int)=0))||true) else Chk (inB (W ((i4:Int)-1)) y3.length) (
  j6 ((decide ((i4:Int)=0))||(!decide (y4.Rank=((nth y3 (W ((i4:Int)-1))).Rank)))))) else j5 (((decide (0<y4.Rank)) && (!decide (y4.Rank=(W ((i4:Int)+1))))) && true))
def Li(j3:Option Int):List (List Du)->Nat->Option Int
  |[],_=>j3
  |y3::ys3,i3=>Ff (Li j3 ys3 (i3+1)) (λj4=>
  Mf y3 j4 y3 0)
def Iy(y5:(List Du))(j8:Option Int):Nat->Int->Option Int
  |0,_=>none
  |m1+1,x2=>if decide (x2<(y5.length:Int)) then
  Chk (inB x2 y5.length) (
  Ff (fun(c3:Bool)=>
  if c3 then
  some 12
  else
  Iy y5 j8 m1 (W (x2+1))) (λj9=>
  if(decide (0<((nth y5 x2).Rank))) then Chk (inB x2 y5.length) (
  Chk (inB (W (x2-10)) y5.length) (
  j9 ((decide (0<((nth y5 x2).Rank))) && (decide (((nth y5 x2).Rank)=((nth y5 (W (x2-10))).Rank)))))) else j9 ((decide (0<((nth y5 x2).Rank))) && true)))
  else
  j8
def Lj(j7:Option Int):List (List Du)->Nat->Option Int
  |[],_=>j7
  |y5::ys5,i5=>Ff (Lj j7 ys5 (i5+1)) (λj8=>
  Iy y5 j8 (((y5.length:Int)-10).toNat+2) 10)
def Yu(p_l:List Du):Option Int:=
  Ff (fun(x1:List (Fl×Bool))=>
  Option.bind (To p_l) (λr1=>
  Ff (Ff (Ff (some 0) (λj7=>
  Lj j7 r1 0)) (λj3=>
  Li j3 r1 0)) (λj2=>
  Me j2 r1 0))) (λj1=>
  Lh j1 p_l 0 ([]:List (Fl×Bool)))
def Gu(p_l:List Du)(j1:Option Int):List Du->Nat->Option Int
  |[],_=>j1
  |y1::ys1,i1=>Option.bind (Gp y1.Race) (λr1=>
  Ff (fun(c1:Bool)=>
  Ff (fun(c2:Bool)=>
  if c2 then
  some 5
  else
  if !(Ed y1.Rank 0 300) then
  some 1
  else
  Ff (fun(x1:Bool)=>
  if x1 then
  some 7
  else
  Gu p_l j1 ys1 (i1+1)) (λj5=>
  if decide (0<(i1:Int)) then
  Chk (inB (W ((i1:Int)-1)) p_l.length) (
  j5 (decide (0<=(Sw (nth p_l (W ((i1:Int)-1))) y1))))
  else
  j5 false)) (λj3=>
  if c1 then j3 (c1||true) else Ff (fun(c3:Bool)=>
  j3 (c1||c3)) (λj4=>
  if(!decide (y1.Club=An)) then Option.bind (Gp y1.Club) (λr3=>
  j4 ((!decide (y1.Club=An)) && (!r3))) else j4 ((!decide (y1.Club=An)) && true)))) (λj2=>
  if(!r1) then j2 ((!r1)||true) else Option.bind (Gp y1.Who) (λr2=>
  j2 ((!r1)||(!r2)))))
def Ty(p_l:List Du):Option Int:=
  if decide (2000<(p_l.length:Int)) then
  some 2
  else
  Ff (Option.bind (Yu p_l) (λr4=>
  some r4)) (λj1=>
  Gu p_l j1 p_l 0)
def Tt(p_t:Jh)(p_l:List Du):Option Int:=
  Option.bind (Rl p_t) (λr1=>
  if !decide (r1=0) then
  some r1
  else
  Option.bind (Ty p_l) (λr2=>
  some r2))
def Pe:Ef:=
  (Ef.mk 0 1)
def Nx(j1:Int->Option Ef):Nat->Int->Int->Option Ef
  |0,_,_=>none
  |m1+1,x1,x2=>if decide (0<x1) then
  Chk (!decide (x1=0)) (
  Nx j1 m1 (Int.tmod x2 x1) x1)
  else
  j1 x2
def Pf(p_a:Int)(p_b:Int):Option Ef:=
  Ff (fun(x2:Int)=>
  Chk (!decide (x2=0)) (
  Chk (!decide (x2=0)) (
  some (Ef.mk (W (Int.tdiv p_a x2)) (W (Int.tdiv p_b x2)))))) (λj1=>
  Nx j1 ((p_a-0).toNat+2) p_a p_b)
def Nl(p_t:Jh)(j1:(List (ByteArray×Int))->(List Int)->(List Ec)->Option (List Ec)):List Du->Nat->(List (ByteArray×Int))->(List Int)->(List Ec)->Option (List Ec)
  |[],_,x1,x2,x3=>j1 x1 x2 x3
  |y1::ys1,i1,x1,x2,x3=>Ff (fun(x4:List (ByteArray×Int)) (x5:List Int) (x6:List Ec)=>
  Nl p_t j1 ys1 (i1+1) x4 x5 x6) (λj2=>
  if((decide (y1.Rank=0))||(decide (y1.Club=An))) then
  j2 x1 x2 x3
  else
  Ff (fun(x7:List Int)=>
  Chk (Px x3.length) (
  j2 (Hp x1 y1.Club (W ((Eh x1 y1.Club 0)+1))) x7 (x3++[(Ec.mk y1 Pe)]))) (λj3=>
  if((decide (p_t.Most=0))||(decide ((Eh (Hp x1 y1.Club (W ((Eh x1 y1.Club 0)+1))) y1.Club 0)<=p_t.Most))) then
  Chk (Px x2.length) (
  j3 (x2++[(x3.length:Int)]))
  else
  j3 x2))
def Qi(p_t:Jh)(x2:List Int)(x8:List Ec)(x9:Int)(j5:Int->Int->Option (List Ec)):Nat->Int->Int->Option (List Ec)
  |0,_,_=>none
  |m2+1,x10,x11=>Ff (fun(c1:Bool)=>
  if c1 then
  Ff (fun(x12:Int)=>
  Qi p_t x2 x8 x9 j5 m2 (W (x10+1)) x12) (λj7=>
  Ff (fun(x13:Int)=>
  j7 x13) (λj8=>
  if decide (x10<(p_t.Points.length:Int)) then
  Chk (inB x10 p_t.Points.length) (
  j8 (W (x11+(nth p_t.Points x10))))
  else
  j8 x11))
  else
  j5 x10 x11) (λj6=>
  if(decide (x10<(x2.length:Int))) then Chk (inB x10 x2.length) (
  Chk (inB (nth x2 x10) x8.length) (
  Chk (inB x9 x2.length) (
  Chk (inB (nth x2 x9) x8.length) (
  j6 ((decide (x10<(x2.length:Int))) && (decide ((((nth x8 (nth x2 x10)).x_).Rank)=(((nth x8 (nth x2 x9)).x_).Rank)))))))) else j6 ((decide (x10<(x2.length:Int))) && true))
def Nm(x10:Int)(x9:Int)(x14:Int)(x2:List Int)(j10:(List Ec)->Option (List Ec)):Nat->(List Ec)->Int->Option (List Ec)
  |0,_,_=>none
  |m3+1,x15,x16=>if decide (x16<((x10.toNat-x9.toNat:Nat):Int)) then
  Chk (inB x16 (x10.toNat-x9.toNat)) (
  Option.bind (Pf x14 (W (x10-x9))) (λr1=>
  Chk (inB (nth (cut x2 x9 x10) x16) x15.length) (
  Nm x10 x9 x14 x2 j10 m3 (x15.set ((nth (cut x2 x9 x10) x16).toNat) (Ec.mk ((nth x15 (nth (cut x2 x9 x10) x16)).x_) r1)) (W (x16+1)))))
  else
  j10 x15
def Ms(x2:List Int)(p_l:List Du)(p_t:Jh)(j4:(List Ec)->Option (List Ec)):Nat->(List Ec)->Int->Option (List Ec)
  |0,_,_=>none
  |m1+1,x8,x9=>if decide (x9<(x2.length:Int)) then
  Ff (fun(x10:Int) (x11:Int)=>
  Chk (inB 0 p_l.length) (
  Ff (fun(x14:Int)=>
  Chk (DO x9 x10 x2.length) (
  Ff (fun(x15:List Ec)=>
  Ms x2 p_l p_t j4 m1 x15 x10) (λj10=>
  Nm x10 x9 x14 x2 j10 ((((x10.toNat-x9.toNat:Nat):Int)-0).toNat+2) x8 0))) (λj9=>
  if(nth p_l 0).Relay then
  j9 (W (x11*p_t.Relay))
  else
  j9 x11))) (λj5=>
  Qi p_t x2 x8 x9 j5 (((x2.length:Int)-x9).toNat+2) x9 0)
  else
  j4 x8
def Xn(p_t:Jh)(p_l:List Du):Option (List Ec):=
  Ff (fun(x1:List (ByteArray×Int)) (x2:List Int) (x3:List Ec)=>
  Ff (fun(x8:List Ec)=>
  some x8) (λj4=>
  Ms x2 p_l p_t j4 (((x2.length:Int)-0).toNat+2) x3 0)) (λj1=>
  Nl p_t j1 p_l 0 ([]:List (ByteArray×Int)) ([]:List Int) ([]:List Ec))
def Qj(p_t:Jh)(j1:(List Ec)->Option (List Ec)):List (List Du)->Nat->(List Ec)->Option (List Ec)
  |[],_,x1=>j1 x1
  |y1::ys1,i1,x1=>Option.bind (Xn p_t y1) (λr3=>
  Chk (decide (x1.length+r3.length<1073741824)) (
  Qj p_t j1 ys1 (i1+1) (x1++r3)))
def AN(p_t:Jh)(p_l:List Du):Option (List Ec):=
  Option.bind (To p_l) (λr1=>
  Ff (fun(x1:List Ec)=>
  some x1) (λj1=>
  Qj p_t j1 r1 0 ([]:List Ec)))
def Oi(j1:(List Od)->Option ((List Od)×Int)):List Ec->Nat->(List Od)->Option ((List Od)×Int)
  |[],_,x1=>j1 x1
  |y1::ys1,i1,x1=>Chk (decide (y1.x_.Race.size+Jo.size<1073741824)) (
  Chk (decide ((y1.x_.Race++Jo).size+y1.x_.Who.size<1073741824)) (
  Chk (Px x1.length) (
  Oi j1 ys1 (i1+1) (x1++[(Od.mk ((y1.x_.Race++Jo)++y1.x_.Who) y1.points_)]))))
def Ux(p_t:Jh)(p_l:List Du):Option ((List Od)×Int):=
  Option.bind (Tt p_t p_l) (λr1=>
  if !decide (r1=0) then
  some (([]:List Od),r1)
  else
  Option.bind (AN p_t p_l) (λr2=>
  Ff (fun(x1:List Od)=>
  some (x1,0)) (λj1=>
  Oi j1 r2 0 ([]:List Od))))
def Nn(p_r:Ea)(r1:(List Dw)×(List (ByteArray×ByteArray))×Int)(j1:(List Du)->Option ((List Dy)×Int)):List Dw->Nat->(List Du)->Option ((List Dy)×Int)
  |[],_,x1=>j1 x1
  |y1::ys1,i1,x1=>Chk (Px x1.length) (
  Nn p_r r1 j1 ys1 (i1+1) (x1++[(Du.mk p_r.Key y1.Who (Eh r1.2.1 y1.Who An) y1.Rank (decide (1<p_r.Legs)))]))
def Np(j2:(List (ByteArray×Ef))->Option ((List Dy)×Int)):List Od->Nat->(List (ByteArray×Ef))->Option ((List Dy)×Int)
  |[],_,x2=>j2 x2
  |y2::ys2,i2,x2=>Np j2 ys2 (i2+1) (Hp x2 y2.Key y2.Points)
def Mo(p_r:Ea)(r1:(List Dw)×(List (ByteArray×ByteArray))×Int)(x2:List (ByteArray×Ef))(j3:(List Dy)->Option ((List Dy)×Int)):List Dw->Nat->(List Dy)->Option ((List Dy)×Int)
  |[],_,x3=>j3 x3
  |y3::ys3,i3,x3=>Chk (decide (p_r.Key.size+Jo.size<1073741824)) (
  Chk (decide ((p_r.Key++Jo).size+y3.Who.size<1073741824)) (
  Ff (fun(x4:Int) (x5:Int)=>
  Chk (Px x3.length) (
  Mo p_r r1 x2 j3 ys3 (i3+1) (x3++[(Dy.mk y3.Rank y3.Who (Eh r1.2.1 y3.Who An) y3.Time y3.Fault (Ef.mk x4 x5))]))) (λj4=>
  if !((Vi x2 ((p_r.Key++Jo)++y3.Who)).isSome) then
  j4 0 1
  else
  j4 ((Eh x2 ((p_r.Key++Jo)++y3.Who) (Ef.mk 0 0)).Num) ((Eh x2 ((p_r.Key++Jo)++y3.Who) (Ef.mk 0 0)).Den))))
def Sp(p_s_p:Iq)(p_s_deeds:List Dt)(p_r:Ea):Option ((List Dy)×Int):=
  Option.bind (Zm p_s_p p_s_deeds p_r.Key) (λr1=>
  if !decide (r1.2.2=0) then
  some (([]:List Dy),r1.2.2)
  else
  Ff (fun(x1:List Du)=>
  Option.bind (Hs x1) (λr2=>
  Option.bind (Ux p_s_p.Table r2) (λr3=>
  if !decide (r3.2=0) then
  some (([]:List Dy),r3.2)
  else
  Ff (fun(x2:List (ByteArray×Ef))=>
  Ff (fun(x3:List Dy)=>
  some (x3,0)) (λj3=>
  Mo p_r r1 x2 j3 r1.1 0 ([]:List Dy))) (λj2=>
  Np j2 r3.1 0 ([]:List (ByteArray×Ef)))))) (λj1=>
  Nn p_r r1 j1 r1.1 0 ([]:List Du)))
def Yp(p_n:Int):Bool:=
  (Ed p_n 1 360000)
def Mk(p_n:Int):ByteArray:=
  strOfNums [IntKind.wrap .u8 (W (48+(W (Int.tdiv p_n 10)))),IntKind.wrap .u8 (W (48+(Int.tmod p_n 10)))]
def Pt(n:Int):Option ByteArray:=
  Chk (decide (-9223372036854775808<=n) && decide (n<=9223372036854775807)) (some (⟨(Lib.itoa n).toArray⟩))
def BF(p_time:Int):Option (ByteArray×Int):=
  if !(Yp p_time) then
  some (An,1)
  else
  Chk (decide (Xk.size+(Mk (Int.tmod p_time 100)).size<1073741824)) (
  if decide (p_time<6000) then
  Option.bind (Pt (W (Int.tdiv p_time 100))) (λr1=>
  Chk (decide (r1.size+(Xk++(Mk (Int.tmod p_time 100))).size<1073741824)) (
  some (r1++(Xk++(Mk (Int.tmod p_time 100))),0)))
  else
  Option.bind (Pt (W (Int.tdiv p_time 6000))) (λr2=>
  Chk (decide (r2.size+Zj.size<1073741824)) (
  Chk (decide ((r2++Zj).size+(Mk (Int.tmod (W (Int.tdiv p_time 100)) 60)).size<1073741824)) (
  Chk (decide (((r2++Zj)++(Mk (Int.tmod (W (Int.tdiv p_time 100)) 60))).size+(Xk++(Mk (Int.tmod p_time 100))).size<1073741824)) (
  some (((r2++Zj)++(Mk (Int.tmod (W (Int.tdiv p_time 100)) 60)))++(Xk++(Mk (Int.tmod p_time 100))),0))))))
def AD(p_time:Int):Option ByteArray:=
  if decide (p_time=0) then
  some HQ
  else
  Option.bind (BF p_time) (λr1=>
  some r1.1)
def Ry(p_who:ByteArray)(y1:Ea)(j3:ByteArray->Option ((List ByteArray)×Int)):List Dy->Nat->ByteArray->Option ((List ByteArray)×Int)
  |[],_,x3=>j3 x3
  |y2::ys2,i2,x3=>Ff (fun(x4:ByteArray)=>
  Ry p_who y1 j3 ys2 (i2+1) x4) (λj4=>
  Ff (fun(x5:ByteArray)=>
  j4 x5) (λj5=>
  if decide (y2.Who=p_who) then
  Ff (fun(x6:ByteArray)=>
  Chk (decide (y1.Key.size+Jo.size<1073741824)) (
  Chk (decide ((y1.Key++Jo).size+x6.size<1073741824)) (
  Chk (decide (((y1.Key++Jo)++x6).size+Jo.size<1073741824)) (
  Option.bind (AD y2.Time) (λr6=>
  Chk (decide ((((y1.Key++Jo)++x6)++Jo).size+r6.size<1073741824)) (
  j5 ((((y1.Key++Jo)++x6)++Jo)++r6))))))) (λj6=>
  if decide (0<y2.Rank) then
  Option.bind (Pt y2.Rank) (λr5=>
  j6 r5)
  else
  j6 HQ)
  else
  j5 x3))
def Tq(p_s_p:Iq)(p_s_deeds:List Dt)(p_who:ByteArray)(j1:(List ByteArray)->Option ((List ByteArray)×Int)):List Ea->Nat->(List ByteArray)->Option ((List ByteArray)×Int)
  |[],_,x1=>j1 x1
  |y1::ys1,i1,x1=>Ff (fun(x2:List ByteArray)=>
  Tq p_s_p p_s_deeds p_who j1 ys1 (i1+1) x2) (λj2=>
  Option.bind (Tp p_s_p p_s_deeds y1.Key) (λr2=>
  if decide ((Jl r2 p_who)<0) then
  j2 x1
  else
  Option.bind (Sp p_s_p p_s_deeds y1) (λr3=>
  if !decide (r3.2=0) then
  some (([]:List ByteArray),r3.2)
  else
  Chk (decide (y1.Key.size+Nv.size<1073741824)) (
  Chk (inB (Jl r2 p_who) r2.length) (
  Option.bind (AD ((nth r2 (Jl r2 p_who)).Time)) (λr4=>
  Chk (decide ((y1.Key++Nv).size+r4.size<1073741824)) (
  Ff (fun(x3:ByteArray)=>
  Chk (Px x1.length) (
  j2 (x1++[x3]))) (λj3=>
  Ry p_who y1 j3 r3.1 0 ((y1.Key++Nv)++r4)))))))))
def JG(p_s_p:Iq)(p_s_deeds:List Dt)(p_who:ByteArray):Option ((List ByteArray)×Int):=
  Option.bind (AB p_s_p p_s_deeds) (λr1=>
  if !decide (r1=0) then
  some (([]:List ByteArray),r1)
  else
  Ff (fun(x1:List ByteArray)=>
  some (x1,0)) (λj1=>
  Tq p_s_p p_s_deeds p_who j1 p_s_p.Races 0 ([]:List ByteArray)))
def GV(p_p:Iq)(p_l:List Dt)(p_who:ByteArray)(p_at:Int):Option ((List ByteArray)×Int):=
  Option.bind (Uu p_p p_l ([p_at]:List Int)) (λr1=>
  if !decide (r1.2=0) then
  some (([]:List ByteArray),r1.2)
  else
  Option.bind (r1.1) (λr2=>
  Option.bind (JG r2.p_ r2.deeds_ p_who) (λr3=>
  if !decide (r3.2=0) then
  some (([]:List ByteArray),r3.2)
  else
  Option.bind (Gp p_who) (λr4=>
  if !r4 then
  some (([]:List ByteArray),5)
  else
  some (r3.1,0)))))
def Lw(p_s2:List Dy)(j1:Option Bool):List Dy->Nat->Option Bool
  |[],_=>j1
  |y1::ys1,i1=>Chk (inB (i1:Int) p_s2.length) (
  if !decide (y1=(Dy.mk ((nth p_s2 (i1:Int)).Rank) ((nth p_s2 (i1:Int)).Who) ((nth p_s2 (i1:Int)).Club) ((nth p_s2 (i1:Int)).Time) ((nth p_s2 (i1:Int)).Fault) ((nth p_s2 (i1:Int)).Points))) then
  some false
  else
  Lw p_s2 j1 ys1 (i1+1))
def Tc(p_s1:List Dy)(p_s2:List Dy):Option Bool:=
  if !decide ((p_s1.length:Int)=(p_s2.length:Int)) then
  some false
  else
  Ff (some true) (λj1=>
  Lw p_s2 j1 p_s1 0)
def Pm(r3:Kq)(r5:Kq)(j1:(List ByteArray)->Option ((List ByteArray)×Int)):List Ea->Nat->(List ByteArray)->Option ((List ByteArray)×Int)
  |[],_,x1=>j1 x1
  |y1::ys1,i1,x1=>Ff (fun(x2:List ByteArray)=>
  Pm r3 r5 j1 ys1 (i1+1) x2) (λj2=>
  Option.bind (Sp r3.p_ r3.deeds_ y1) (λr7=>
  if !decide (r7.2=0) then
  some (([]:List ByteArray),r7.2)
  else
  Option.bind (Sp r5.p_ r5.deeds_ y1) (λr8=>
  if !decide (r8.2=0) then
  some (([]:List ByteArray),r8.2)
  else
  Option.bind (Tc r7.1 r8.1) (λr9=>
  Ff (fun(x3:List ByteArray)=>
  j2 x3) (λj3=>
  if !r9 then
  Chk (Px x1.length) (
  j3 (x1++[y1.Key]))
  else
  j3 x1)))))
def Xv(p_p:Iq)(p_l:List Dt)(p_from:Int)(p_to:Int):Option ((List ByteArray)×Int):=
  Option.bind (Uu p_p p_l ([p_from,p_to]:List Int)) (λr1=>
  if !decide (r1.2=0) then
  some (([]:List ByteArray),r1.2)
  else
  Option.bind (Xu p_p p_l p_from) (λr2=>
  Option.bind (r2) (λr3=>
  Option.bind (AB r3.p_ r3.deeds_) (λr4=>
  if !decide (r4=0) then
  some (([]:List ByteArray),r4)
  else
  Option.bind (r1.1) (λr5=>
  Option.bind (AB r5.p_ r5.deeds_) (λr6=>
  if !decide (r6=0) then
  some (([]:List ByteArray),r6)
  else
  Ff (fun(x1:List ByteArray)=>
  some (x1,0)) (λj1=>
  Pm r3 r5 j1 p_p.Races 0 ([]:List ByteArray))))))))
def Fw(p_n:Int)(p_low:Int)(p_high:Int):Bool:=
  ((decide (p_low<=p_n)) && (decide (p_n<=p_high)))
def Ro(s:ByteArray)(c:Int):Int:=Lib.indexByte s.data.toList c.toNat.toUInt8
def Xw(p_s:ByteArray):Option Bool:=
  Ff (fun(c1:Bool)=>
  Ff (fun(c2:Bool)=>
  some c2) (λj2=>
  if c1 then Chk (inB 0 p_s.size) (
  j2 (c1 && (decide (0<=(Ro Jd (CC p_s 0)))))) else j2 (c1 && true))) (λj1=>
  if(Fw (p_s.size:Int) 1 40) then Option.bind (Uw p_s Hy) (λr1=>
  j1 ((Fw (p_s.size:Int) 1 40) && (decide (r1=An)))) else j1 ((Fw (p_s.size:Int) 1 40) && true))
def Tz(p_r:Ea):Option Int:=
  Option.bind (Xw p_r.Key) (λr1=>
  if !r1 then
  some 5
  else
  if((!(Fw p_r.Stroke 1 5))||(!(Fw p_r.Sex 0 2))) then
  some 4
  else
  Ff (fun(x1:Bool)=>
  if x1 then
  some 1
  else
  Chk (!decide (p_r.Course=0)) (
  if !decide ((Int.tmod p_r.Metres p_r.Course)=0) then
  some 3
  else
  Ff (fun(c1:Bool)=>
  if c1 then
  some 16
  else
  some 0) (λj5=>
  if(decide (p_r.Stroke=5)) then Ff (fun(c2:Bool)=>
  j5 ((decide (p_r.Stroke=5)) && (c2||((decide (1<p_r.Legs)) && (!decide (p_r.Legs=4)))))) (λj6=>
  if(decide (p_r.Legs=1)) then Chk (!decide ((W (4*p_r.Course))=0)) (
  j6 ((decide (p_r.Legs=1)) && (!decide ((Int.tmod p_r.Metres (W (4*p_r.Course)))=0)))) else j6 ((decide (p_r.Legs=1)) && true)) else j5 ((decide (p_r.Stroke=5)) && true)))) (λj1=>
  if((!decide (p_r.Course=25)) && (!decide (p_r.Course=50))) then
  j1 ((!decide (p_r.Course=25)) && (!decide (p_r.Course=50)))
  else
  Ff (fun(x2:Bool)=>
  j1 x2) (λj2=>
  if !(Fw p_r.Legs 1 4) then
  j2 (!(Fw p_r.Legs 1 4))
  else
  Ff (fun(x3:Bool)=>
  j2 x3) (λj3=>
  if !(Fw p_r.Metres 25 1500) then
  j3 (!(Fw p_r.Metres 25 1500))
  else
  Ff (fun(x4:Bool)=>
  j3 x4) (λj4=>
  if !(Fw p_r.Young 0 p_r.Old) then
  j4 (!(Fw p_r.Young 0 p_r.Old))
  else
  j4 (decide (120<p_r.Old)))))))
def Jr(p_key:ByteArray)(j1:(Ea×Bool)):List Ea->Nat->(Ea×Bool)
  |[],_=>j1
  |y1::ys1,i1=>if decide (y1.Key=p_key) then
  (y1,true)
  else
  Jr p_key j1 ys1 (i1+1)
def Hj(p_l:List Ea)(p_key:ByteArray):(Ea×Bool):=
  Ff (((Ea.mk An 0 0 0 0 0 0 0),false)) (λj1=>
  Jr p_key j1 p_l 0)
def Hv(p_n:Int)(p_low:Int)(p_high:Int):Bool:=
  ((decide (p_low<=p_n)) && (decide (p_n<=p_high)))
def Km(p_t:Jh)(j1:Option Int):List Int->Nat->Option Int
  |[],_=>j1
  |y1::ys1,i1=>if !(Hv y1 0 10000) then
  some 1
  else
  Ff (fun(c1:Bool)=>
  if c1 then
  some 7
  else
  Km p_t j1 ys1 (i1+1)) (λj2=>
  if(decide (0<(i1:Int))) then Chk (inB (W ((i1:Int)-1)) p_t.Points.length) (
  j2 ((decide (0<(i1:Int))) && (decide ((nth p_t.Points (W ((i1:Int)-1)))<y1)))) else j2 ((decide (0<(i1:Int))) && true))
def Tj(p_t:Jh):Option Int:=
  if decide (40<(p_t.Points.length:Int)) then
  some 2
  else
  Ff (if((!(Hv p_t.Relay 1 10))||(!(Hv p_t.Most 0 10))) then
  some 1
  else
  some 0) (λj1=>
  Km p_t j1 p_t.Points 0)
def Tk(p_f:Qe):Int:=
  if(((!(Fw p_f.Size 1 10))||(!(Fw p_f.Many 1 5)))||(!(Fw p_f.Reserves 0 10))) then
  1
  else
  0
def Le(p_p:Iq)(j1:Option Int):List Ea->Nat->Option Int
  |[],_=>j1
  |y1::ys1,i1=>Option.bind (Tz y1) (λr1=>
  if !decide (r1=0) then
  some r1
  else
  Ff (if(Hj (cut p_p.Races 0 (i1:Int)) y1.Key).2 then
  some 6
  else
  Le p_p j1 ys1 (i1+1)) (λj2=>
  Chk (DO 0 (i1:Int) p_p.Races.length) (
  j2)))
def Ua(p_p:Iq):Option Int:=
  if decide (100<(p_p.Races.length:Int)) then
  some 2
  else
  Ff (Option.bind (Tj p_p.Table) (λr2=>
  if !decide (r2=0) then
  some r2
  else
  some (Tk p_p.Final))) (λj1=>
  Le p_p j1 p_p.Races 0)
def Nq(p_s:ByteArray)(p_some:ByteArray)(j1:Option Bool):Nat->Int->Option Bool
  |0,_=>none
  |m1+1,x1=>if decide (x1<(p_s.size:Int)) then
  Chk (inB x1 p_s.size) (
  if decide ((Ro p_some (CC p_s x1))<0) then
  some false
  else
  Nq p_s p_some j1 m1 (W (x1+1)))
  else
  j1
def Ww(p_s:ByteArray)(p_some:ByteArray):Option Bool:=
  Ff (some true) (λj1=>
  Nq p_s p_some j1 (((p_s.size:Int)-0).toNat+2) 0)
def Mt(p_s:ByteArray):Option Bool:=
  Ff (fun(c1:Bool)=>
  Ff (fun(c2:Bool)=>
  some c2) (λj2=>
  if c1 then Option.bind (Ww p_s Hy) (λr2=>
  j2 (c1 && r2)) else j2 (c1 && true))) (λj1=>
  if(Hv (p_s.size:Int) 1 40) then Chk (DO 0 1 p_s.size) (
  Option.bind (Ww (ZN p_s 0 1) Jd) (λr1=>
  j1 ((Hv (p_s.size:Int) 1 40) && r1))) else j1 ((Hv (p_s.size:Int) 1 40) && true))
def Oj(p_at:Int):Bool:=
  (Hv p_at 0 345686399999)
def Ub(p_d:Dt):Option Int:=
  Option.bind (Mt p_d.Site) (λr1=>
  if !r1 then
  some 5
  else
  if((!(Hv p_d.No 1 1000000))||(!(Oj p_d.At))) then
  some 1
  else
  if !(Hv p_d.Kind 1 4) then
  some 4
  else
  Ff (fun(x1:ByteArray) (x2:ByteArray) (x3:ByteArray) (x4:Int)=>
  Ff (fun(x5:ByteArray)=>
  Ff (fun(x6:Int)=>
  Ff (fun(x7:Int)=>
  if !decide (p_d=(Dt.mk p_d.Site p_d.No p_d.At p_d.Kind x1 x5 x2 x6 x7 x3 x4)) then
  some 3
  else
  some 0) (λj7=>
  if decide (p_d.Kind=3) then
  if !(Hv p_d.Fault 0 8) then
  some 1
  else
  j7 p_d.Fault
  else
  j7 0)) (λj6=>
  if((decide (p_d.Kind=1))||(decide (p_d.Kind=3))) then
  if !(Hv p_d.Time 0 360000) then
  some 1
  else
  j6 p_d.Time
  else
  j6 0)) (λj5=>
  if decide (p_d.Kind=1) then
  j5 p_d.Club
  else
  j5 An)) (λj1=>
  if decide (p_d.Kind=4) then
  Option.bind (Mt p_d.Of) (λr2=>
  if !r2 then
  some 5
  else
  if !(Hv p_d.Other 1 1000000) then
  some 1
  else
  j1 An An p_d.Of p_d.Other)
  else
  Option.bind (Mt p_d.Who) (λr3=>
  Ff (fun(c1:Bool)=>
  Ff (fun(c2:Bool)=>
  if c2 then
  some 5
  else
  j1 p_d.Who p_d.Race An 0) (λj3=>
  if c1 then j3 (c1||true) else Ff (fun(c3:Bool)=>
  j3 (c1||c3)) (λj4=>
  if((decide (p_d.Kind=1)) && (!decide (p_d.Club=An))) then Option.bind (Mt p_d.Club) (λr5=>
  j4 (((decide (p_d.Kind=1)) && (!decide (p_d.Club=An))) && (!r5))) else j4 (((decide (p_d.Kind=1)) && (!decide (p_d.Club=An))) && true)))) (λj2=>
  if(!r3) then j2 ((!r3)||true) else Option.bind (Mt p_d.Race) (λr4=>
  j2 ((!r3)||(!r4)))))))
def Yv(p_a:Dt)(p_b:Dt):Bool:=
  ((decide (p_a.Site=p_b.Site)) && (decide (p_a.No=p_b.No)))
def Rp(p_o:Dt)(p_a1:Dt):Bool:=
  (Yv p_o p_a1)
def Ez(p_f_0:Dt)(j1:Int):List Dt->Nat->Int
  |[],_=>j1
  |y1::ys1,i1=>if(Rp y1 p_f_0) then
  (i1:Int)
  else
  Ez p_f_0 j1 ys1 (i1+1)
def Nr(p_s:List Dt)(p_f_0:Dt):Int:=
  Ff ((-1)) (λj1=>
  Ez p_f_0 j1 p_s 0)
def Kg(p_s:List Dt)(p_f_0:Dt):Bool:=
  decide (0<=(Nr p_s p_f_0))
def It(p_l:List Dt)(j1:Option Int):List Dt->Nat->Option Int
  |[],_=>j1
  |y1::ys1,i1=>Option.bind (Ub y1) (λr1=>
  if !decide (r1=0) then
  some r1
  else
  Ff (fun(x1:Bool)=>
  if x1 then
  some 7
  else
  It p_l j1 ys1 (i1+1)) (λj2=>
  if decide (0<(i1:Int)) then
  Chk (inB (W ((i1:Int)-1)) p_l.length) (
  j2 (decide (0<=(Lg (nth p_l (W ((i1:Int)-1))) y1))))
  else
  j2 false))
def Js(p_l:List Dt)(j3:Option Int):List Dt->Nat->Option Int
  |[],_=>j3
  |y2::ys2,i2=>Chk (DO 0 (i2:Int) p_l.length) (
  if(Kg (cut p_l 0 (i2:Int)) y2) then
  some 6
  else
  Js p_l j3 ys2 (i2+1))
def Tl(p_l:List Dt):Option Int:=
  if decide (2000<(p_l.length:Int)) then
  some 2
  else
  Ff (Ff (some 0) (λj3=>
  Js p_l j3 p_l 0)) (λj1=>
  It p_l j1 p_l 0)
def AH(p_is:Bool)(p_e:Int):Int:=
  if p_is then
  p_e
  else
  0
def Fx(p_at:Int):Int:=
  (AH (!(Oj p_at)) 1)
def Lz(j1:Int):List Int->Nat->Int
  |[],_=>j1
  |y1::ys1,i1=>if !decide (y1=0) then
  y1
  else
  Lz j1 ys1 (i1+1)
def Io(p_l:List Int):Int:=
  Ff (0) (λj1=>
  Lz j1 p_l 0)
def Mi(p_p:Iq)(p_l:List Dt)(p_at:Int):Option Int:=
  Option.bind (Ua p_p) (λr1=>
  if !decide (r1=0) then
  some r1
  else
  Option.bind (Tl p_l) (λr2=>
  some (Io [r2,(Fx p_at)])))
def Hq(p_a1:List Dt)(p_i:Int)(self:Int->(List Dt)->Option Bool)(j1:Option Bool):Nat->Int->Option Bool
  |0,_=>none
  |m1+1,x1=>if decide (x1<(p_a1.length:Int)) then
  Ff (fun(x2:Bool)=>
  if x2 then
  some false
  else
  Hq p_a1 p_i self j1 m1 (W (x1+1))) (λj2=>
  Chk (inB x1 p_a1.length) (
  if decide (((nth p_a1 x1).Kind)=4) then
  Chk (inB x1 p_a1.length) (
  Chk (inB p_i p_a1.length) (
  if decide (((nth p_a1 x1).Of)=((nth p_a1 p_i).Site)) then
  Chk (inB x1 p_a1.length) (
  Chk (inB p_i p_a1.length) (
  if decide (((nth p_a1 x1).Other)=((nth p_a1 p_i).No)) then
  Option.bind (self x1 p_a1) (λr1=>
  j2 r1)
  else
  Chk (inB x1 p_a1.length) (
  Chk (inB x1 p_a1.length) (
  Chk (inB p_i p_a1.length) (
  Chk (inB x1 p_a1.length) (
  Chk (inB p_i p_a1.length) (
  j2 false)))))))
  else
  if false then
  Option.bind (self x1 p_a1) (λr2=>
  j2 r2)
  else
  Chk (inB x1 p_a1.length) (
  Chk (inB x1 p_a1.length) (
  Chk (inB p_i p_a1.length) (
  j2 false)))))
  else
  if false then
  Chk (inB x1 p_a1.length) (
  Chk (inB p_i p_a1.length) (
  if decide (((nth p_a1 x1).Other)=((nth p_a1 p_i).No)) then
  Option.bind (self x1 p_a1) (λr3=>
  j2 r3)
  else
  Chk (inB x1 p_a1.length) (
  Chk (inB x1 p_a1.length) (
  Chk (inB p_i p_a1.length) (
  j2 false)))))
  else
  if false then
  Option.bind (self x1 p_a1) (λr4=>
  j2 r4)
  else
  Chk (inB x1 p_a1.length) (
  j2 false)))
  else
  j1
def Qk(self:Int->(List Dt)->Option Bool)(p_i:Int)(p_a1:List Dt):Option Bool:=
  Ff (some true) (λj1=>
  Hq p_a1 p_i self j1 (((p_a1.length:Int)-(W (p_i+1))).toNat+2) (W (p_i+1)))
def Je:Nat->Int->(List Dt)->Option Bool
  |0,_,_=>none
  |m+1,p_i,p_a1=>Qk (Je m) p_i p_a1
def Jt(p_at:Int)(j1:(List Dt)->Option (List Int)):List Dt->Nat->(List Dt)->Option (List Int)
  |[],_,x1=>j1 x1
  |y1::ys1,i1,x1=>Ff (fun(x2:List Dt)=>
  Jt p_at j1 ys1 (i1+1) x2) (λj2=>
  Ff (fun(x3:List Dt)=>
  j2 x3) (λj3=>
  if decide (y1.At<=p_at) then
  Chk (Px x1.length) (
  j3 (x1++[y1]))
  else
  j3 x1))
def Im(x1:List Dt)(j4:(List Int)->Option (List Int)):Nat->(List Int)->Int->Option (List Int)
  |0,_,_=>none
  |m1+1,x4,x5=>if decide (x5<(x1.length:Int)) then
  Ff (fun(x6:List Int)=>
  Im x1 j4 m1 x6 (W (x5+1))) (λj5=>
  Option.bind (Je 16 x5 x1) (λr1=>
  Ff (fun(x7:List Int)=>
  j5 x7) (λj6=>
  if r1 then
  Chk (Px x4.length) (
  j6 (x4++[x5]))
  else
  j6 x4)))
  else
  j4 x4
def Qa(p_l:List Dt)(p_at:Int):Option (List Int):=
  Ff (fun(x1:List Dt)=>
  Ff (fun(x4:List Int)=>
  some x4) (λj4=>
  Im x1 j4 (((x1.length:Int)-0).toNat+2) ([]:List Int) 0)) (λj1=>
  Jt p_at j1 p_l 0 ([]:List Dt))
def Mu(p_l:List Dt)(j1:(List Dt)->Option (List Dt)):List Int->Nat->(List Dt)->Option (List Dt)
  |[],_,x1=>j1 x1
  |y1::ys1,i1,x1=>Chk (inB y1 p_l.length) (
  Chk (Px x1.length) (
  Mu p_l j1 ys1 (i1+1) (x1++[(nth p_l y1)])))
def Wb(p_l:List Dt)(p_at:Int):Option (List Dt):=
  Option.bind (Qa p_l p_at) (λr1=>
  Ff (fun(x1:List Dt)=>
  some x1) (λj1=>
  Mu p_l j1 r1 0 ([]:List Dt)))
def Jw(p_o:Dt)(p_a1:ByteArray)(p_a2:Dt):Bool:=
  (((decide (p_o.Race=p_a1)) && (decide (p_o.Who=p_a2.Who))) && ((decide (p_o.Kind=1))||(decide (p_o.Kind=2))))
def Fz(p_f_0:ByteArray)(p_f_1:Dt)(j1:Int):List Dt->Nat->Int
  |[],_=>j1
  |y1::ys1,i1=>if(Jw y1 p_f_0 p_f_1) then
  (i1:Int)
  else
  Fz p_f_0 p_f_1 j1 ys1 (i1+1)
def Mc(p_s:List Dt)(p_f_0:ByteArray)(p_f_1:Dt):Int:=
  Ff ((-1)) (λj1=>
  Fz p_f_0 p_f_1 j1 p_s 0)
def Hf(p_s:List Dt)(p_f_0:ByteArray)(p_f_1:Dt):Bool:=
  decide (0<=(Mc p_s p_f_0 p_f_1))
def Vp(p_a:Dt)(p_b:Dt):Int:=
  (Gv p_a.Who p_b.Who)
open Classical in
def Iz(p_x:List Dt):Option (List Dt):=if IY Vp p_x/\p_x.length<4611686018427387904 then some (Qd Vp p_x) else none
def Ll(r1:(List Dt))(p_race:ByteArray)(j1:(List Dt)->Option (List Dt)):List Dt->Nat->(List Dt)->Option (List Dt)
  |[],_,x1=>j1 x1
  |y1::ys1,i1,x1=>Ff (fun(x2:List Dt)=>
  Ll r1 p_race j1 ys1 (i1+1) x2) (λj2=>
  Chk (DO (W ((i1:Int)+1)) (r1.length:Int) r1.length) (
  Ff (fun(x3:List Dt)=>
  j2 x3) (λj3=>
  if(((decide (y1.Kind=1)) && (decide (y1.Race=p_race))) && (!(Hf (cut r1 (W ((i1:Int)+1)) r1.length) p_race y1))) then
  Chk (Px x1.length) (
  j3 (x1++[y1]))
  else
  j3 x1)))
def Sk(p_l:List Dt)(p_race:ByteArray)(p_at:Int):Option (List Dt):=
  Option.bind (Wb p_l p_at) (λr1=>
  Ff (fun(x1:List Dt)=>
  Option.bind (Iz x1) (λr2=>
  some r2)) (λj1=>
  Ll r1 p_race j1 r1 0 ([]:List Dt)))
def Uc(p_p:Iq)(p_l:List Dt)(p_race:ByteArray)(p_at:Int):Option Int:=
  if !((Hj p_p.Races p_race).2) then
  some 8
  else
  Option.bind (Sk p_l p_race p_at) (λr1=>
  if decide (300<(r1.length:Int)) then
  some 2
  else
  some 0)
def Lx(p_p:Iq)(p_l:List Dt)(p_at:Int)(j1:Option Int):List Ea->Nat->Option Int
  |[],_=>j1
  |y1::ys1,i1=>Option.bind (Uc p_p p_l y1.Key p_at) (λr1=>
  if !decide (r1=0) then
  some r1
  else
  Lx p_p p_l p_at j1 ys1 (i1+1))
def Ny(p_p:Iq)(p_l:List Dt)(p_at:Int):Option Int:=
  Ff (some 0) (λj1=>
  Lx p_p p_l p_at j1 p_p.Races 0)
def Rq(d:Dt)(race who:ByteArray):Bool:=((decide (d.Kind=3)) && (decide (d.Race=race))) && (decide (d.Who=who))
  def Oq (l:List Dt) (race who:ByteArray):List Nat->Dt×Bool
  |[]=>((Dt.mk An 0 0 0 An An An 0 0 An 0),false)
  |i::is=>if Rq (nth l (i:Int)) race who then(nth l (i:Int),true) else Oq l race who is
def Yq(l:List Dt)(race who:ByteArray)(at_:Int):Option (Dt×Bool):=
  Option.bind (Wb l at_) λf=>some (Oq f race who (Wx f.length))
def Gy(p_x:Dy):Bool:=
  ((decide (0<p_x.Time)) && (decide (p_x.Fault=0)))
def Mv(p_a:Dy)(p_b:Dy):Int:=
  if !decide ((Gy p_a)=(Gy p_b)) then
  if(Gy p_a) then
  (-1)
  else
  1
  else
  (Qf (W (p_a.Rank-p_b.Rank)))
def En(p_a:Int)(j2:(List Dy)->Option (List Dy)):Nat->(List Dy)->Int->Option (List Dy)
  |0,_,_=>none
  |m2+1,x3,x4=>Ff (fun(x5:Bool)=>
  if x5 then
  Chk (inB (W (x4-1)) x3.length) (
  Chk (inB x4 x3.length) (
  Chk (inB x4 x3.length) (
  Chk (inB (W (x4-1)) (x3.set x4.toNat (Dy.mk ((nth x3 (W (x4-1))).Rank) ((nth x3 (W (x4-1))).Who) ((nth x3 (W (x4-1))).Club) ((nth x3 (W (x4-1))).Time) ((nth x3 (W (x4-1))).Fault) ((nth x3 (W (x4-1))).Points))).length) (
  En p_a j2 m2 ((x3.set x4.toNat (Dy.mk ((nth x3 (W (x4-1))).Rank) ((nth x3 (W (x4-1))).Who) ((nth x3 (W (x4-1))).Club) ((nth x3 (W (x4-1))).Time) ((nth x3 (W (x4-1))).Fault) ((nth x3 (W (x4-1))).Points))).set ((W (x4-1)).toNat) (Dy.mk ((nth x3 x4).Rank) ((nth x3 x4).Who) ((nth x3 x4).Club) ((nth x3 x4).Time) ((nth x3 x4).Fault) ((nth x3 x4).Points))) (W (x4-1))))))
  else
  j2 x3) (λj3=>
  if decide (p_a<x4) then
  Chk (inB x4 x3.length) (
  Chk (inB (W (x4-1)) x3.length) (
  j3 (decide ((Mv (Dy.mk ((nth x3 x4).Rank) ((nth x3 x4).Who) ((nth x3 x4).Club) ((nth x3 x4).Time) ((nth x3 x4).Fault) ((nth x3 x4).Points)) (Dy.mk ((nth x3 (W (x4-1))).Rank) ((nth x3 (W (x4-1))).Who) ((nth x3 (W (x4-1))).Club) ((nth x3 (W (x4-1))).Time) ((nth x3 (W (x4-1))).Fault) ((nth x3 (W (x4-1))).Points)))<0))))
  else
  j3 false)
def Fa(p_b:Int)(p_a:Int)(j1:(List Dy)->Option (List Dy)):Nat->(List Dy)->Int->Option (List Dy)
  |0,_,_=>none
  |m1+1,x1,x2=>if decide (x2<p_b) then
  Ff (fun(x3:List Dy)=>
  Fa p_b p_a j1 m1 x3 (W (x2+1))) (λj2=>
  En p_a j2 ((x2-p_a).toNat+2) x1 x2)
  else
  j1 x1
def Ho(p_data:List Dy)(p_a:Int)(p_b:Int):Option (List Dy):=
  Ff (fun(x1:List Dy)=>
  some x1) (λj1=>
  Fa p_b p_a j1 ((p_b-(W (p_a+1))).toNat+2) p_data (W (p_a+1)))
def Ft(p_n:Int)(j1:(List Dy)->Int->Option (List Dy)):Nat->(List Dy)->Int->Int->Option (List Dy)
  |0,_,_,_=>none
  |m1+1,x1,x2,x3=>if decide (x3<=p_n) then
  Option.bind (Ho x1 x2 x3) (λr1=>
  Ft p_n j1 m1 r1 x3 (W (x3+20)))
  else
  j1 x1 x2
def Hg(p_n:Int)(j3:Int->Option (List Dy)):Nat->Int->Int->Option (List Dy)
  |0,_,_=>none
  |_+1,x5,x6=>if decide (x6<=p_n) then
  none
  else
  j3 x5
def Fu(p_n:Int)(j2:Option (List Dy)):Nat->Int->Option (List Dy)
  |0,_=>none
  |m2+1,x4=>if decide (x4<p_n) then
  Ff (fun(x5:Int)=>
  if decide ((W (x5+x4))<p_n) then
  none
  else
  Fu p_n j2 m2 (W (x4*2))) (λj3=>
  Hg p_n j3 ((p_n-(W (2*x4))).toNat+2) 0 (W (2*x4)))
  else
  j2
def Kn(p_data:List Dy)(p_n:Int):Option (List Dy):=
  Ff (fun(x1:List Dy) (x2:Int)=>
  Option.bind (Ho x1 x2 p_n) (λr2=>
  Ff (some r2) (λj2=>
  Fu p_n j2 ((p_n-20).toNat+2) 20))) (λj1=>
  Ft p_n j1 ((p_n-20).toNat+2) p_data 0 20)
def Ij(p_x:List Dy):Option (List Dy):=
  Option.bind (Kn p_x (p_x.length:Int)) (λr1=>
  some r1)
def Kr(p_l:List Dt)(p_race:ByteArray)(p_at:Int)(j1:(List Dy)->Option (List Dy)):List Dt->Nat->(List Dy)->Option (List Dy)
  |[],_,x1=>j1 x1
  |y1::ys1,i1,x1=>Ff (fun(x2:List Dy)=>
  Kr p_l p_race p_at j1 ys1 (i1+1) x2) (λj2=>
  Option.bind (Yq p_l p_race y1.Who p_at) (λr2=>
  Ff (fun(x3:List Dy)=>
  j2 x3) (λj3=>
  if r2.2 then
  Chk (Px x1.length) (
  j3 (x1++[(Dy.mk 0 y1.Who y1.Club r2.1.Time r2.1.Fault (Ef.mk 0 1))]))
  else
  j3 x1)))
def Ks(x4:List Dy)(i2:Nat)(j6:(List Dy)->Option (List Dy)):List Dy->Nat->(List Dy)->Option (List Dy)
  |[],_,x6=>j6 x6
  |_::ys3,i3,x6=>Ff (fun(x7:List Dy)=>
  Ks x4 i2 j6 ys3 (i3+1) x7) (λj7=>
  Chk (inB (i3:Int) x6.length) (
  Ff (fun(x8:List Dy)=>
  j7 x8) (λj8=>
  if((Gy (Dy.mk ((nth x6 (i3:Int)).Rank) ((nth x6 (i3:Int)).Who) ((nth x6 (i3:Int)).Club) ((nth x6 (i3:Int)).Time) ((nth x6 (i3:Int)).Fault) ((nth x6 (i3:Int)).Points))) && (decide (((nth x6 (i3:Int)).Time)<((nth x4 (i2:Int)).Time)))) then
  Chk (inB (i2:Int) x6.length) (
  Chk (inB (i2:Int) x6.length) (
  j8 (x6.set ((i2:Int).toNat) (Dy.mk (W (((nth x6 (i2:Int)).Rank)+1)) ((nth x6 (i2:Int)).Who) ((nth x6 (i2:Int)).Club) ((nth x6 (i2:Int)).Time) ((nth x6 (i2:Int)).Fault) ((nth x6 (i2:Int)).Points)))))
  else
  j8 x6)))
def Ka(j4:(List Dy)->Option (List Dy)):List Dy->Nat->(List Dy)->Option (List Dy)
  |[],_,x4=>j4 x4
  |_::ys2,i2,x4=>Ff (fun(x5:List Dy)=>
  Ka j4 ys2 (i2+1) x5) (λj5=>
  Chk (inB (i2:Int) x4.length) (
  if !(Gy (Dy.mk ((nth x4 (i2:Int)).Rank) ((nth x4 (i2:Int)).Who) ((nth x4 (i2:Int)).Club) ((nth x4 (i2:Int)).Time) ((nth x4 (i2:Int)).Fault) ((nth x4 (i2:Int)).Points))) then
  j5 x4
  else
  Chk (inB (i2:Int) x4.length) (
  Ff (fun(x6:List Dy)=>
  j5 x6) (λj6=>
  Ks x4 i2 j6 (x4.set ((i2:Int).toNat) (Dy.mk 1 ((nth x4 (i2:Int)).Who) ((nth x4 (i2:Int)).Club) ((nth x4 (i2:Int)).Time) ((nth x4 (i2:Int)).Fault) ((nth x4 (i2:Int)).Points))) 0 (x4.set ((i2:Int).toNat) (Dy.mk 1 ((nth x4 (i2:Int)).Who) ((nth x4 (i2:Int)).Club) ((nth x4 (i2:Int)).Time) ((nth x4 (i2:Int)).Fault) ((nth x4 (i2:Int)).Points)))))))
def Uy(p_p:Iq)(p_l:List Dt)(p_race:ByteArray)(p_at:Int):Option (List Dy):=
  Option.bind (Sk p_l p_race p_at) (λr1=>
  Ff (fun(x1:List Dy)=>
  Ff (fun(x4:List Dy)=>
  Option.bind (Ij x4) (λr3=>
  some r3)) (λj4=>
  Ka j4 x1 0 x1)) (λj1=>
  Kr p_l p_race p_at j1 r1 0 ([]:List Dy)))
def Mg(p_s:Du):Int:=
  if decide (p_s.Rank=0) then
  301
  else
  p_s.Rank
def Mw(p_a:Du)(p_b:Du):Int:=
  if !decide (p_a.Race=p_b.Race) then
  (Gv p_a.Race p_b.Race)
  else
  if !decide ((Mg p_a)=(Mg p_b)) then
  (Qf (W ((Mg p_a)-(Mg p_b))))
  else
  (Gv p_a.Who p_b.Who)
def Ew(p_l:List Du)(j1:Option Int):List Du->Nat->Option Int
  |[],_=>j1
  |y1::ys1,i1=>Option.bind (Mt y1.Race) (λr1=>
  Ff (fun(c1:Bool)=>
  Ff (fun(c2:Bool)=>
  if c2 then
  some 5
  else
  if !(Hv y1.Rank 0 300) then
  some 1
  else
  Ff (fun(x1:Bool)=>
  if x1 then
  some 7
  else
  Ew p_l j1 ys1 (i1+1)) (λj5=>
  if decide (0<(i1:Int)) then
  Chk (inB (W ((i1:Int)-1)) p_l.length) (
  j5 (decide (0<=(Mw (nth p_l (W ((i1:Int)-1))) y1))))
  else
  j5 false)) (λj3=>
  if c1 then j3 (c1||true) else Ff (fun(c3:Bool)=>
  j3 (c1||c3)) (λj4=>
  if(!decide (y1.Club=An)) then Option.bind (Mt y1.Club) (λr3=>
  j4 ((!decide (y1.Club=An)) && (!r3))) else j4 ((!decide (y1.Club=An)) && true)))) (λj2=>
  if(!r1) then j2 ((!r1)||true) else Option.bind (Mt y1.Who) (λr2=>
  j2 ((!r1)||(!r2)))))
def Iu(y2:Du)(i2:Nat)(j7:Bool->Bool->Int->Int->Option Int):List Du->Nat->Bool->Bool->Int->Int->Option Int
  |[],_,x6,x7,x8,x9=>j7 x6 x7 x8 x9
  |y3::ys3,i3,x6,x7,x8,x9=>Ff (fun(x10:Bool) (x11:Bool) (x12:Int) (x13:Int)=>
  Iu y2 i2 j7 ys3 (i3+1) x10 x11 x12 x13) (λj8=>
  if !decide (y3.Race=y2.Race) then
  j8 x6 x7 x8 x9
  else
  Ff (fun(x14:Int)=>
  Ff (fun(x15:Int)=>
  j8 (x6||((!decide ((i3:Int)=(i2:Int))) && (decide (y3.Who=y2.Who)))) (x7||(!decide (y3.Relay=y2.Relay))) x14 x15) (λj10=>
  if decide (y3.Rank=y2.Rank) then
  j10 (W (x9+1))
  else
  j10 x9)) (λj9=>
  if((decide (0<y3.Rank)) && (decide (y3.Rank<y2.Rank))) then
  j9 (W (x8+1))
  else
  j9 x8))
def Iv(p_l:List Du)(j6:Bool->Bool->Bool->Bool->Option Int):List Du->Nat->Bool->Bool->Bool->Bool->Option Int
  |[],_,x2,x3,x4,x5=>j6 x2 x3 x4 x5
  |y2::ys2,i2,x2,x3,x4,x5=>Ff (fun(x6:Bool) (x7:Bool) (x8:Int) (x9:Int)=>
  Iv p_l j6 ys2 (i2+1) x6 x7 (x4||((decide (0<y2.Rank)) && (!decide (y2.Rank=(W (x8+1)))))) (x5||((decide (0<y2.Rank)) && (decide (10<x9))))) (λj7=>
  Iu y2 i2 j7 p_l 0 x2 x3 0 0)
def Ke(j11:Option Int):List Gx->Nat->Option Int
  |[],_=>j11
  |y4::ys4,i4=>if y4.is_ then
  some y4.e_
  else
  Ke j11 ys4 (i4+1)
def Kb(p_l:List Du):Option Int:=
  if decide (2000<(p_l.length:Int)) then
  some 2
  else
  Ff (Ff (fun(x2:Bool) (x3:Bool) (x4:Bool) (x5:Bool)=>
  Ff (some 0) (λj11=>
  Ke j11 ([(Gx.mk x2 6),(Gx.mk x3 3),(Gx.mk x4 16),(Gx.mk x5 12)]:List Gx) 0)) (λj6=>
  Iv p_l j6 p_l 0 false false false false)) (λj1=>
  Ew p_l j1 p_l 0)
def Gj(p_s:Du):Bool:=
  ((decide (0<p_s.Rank)) && (!decide (p_s.Club=An)))
def Ju(p_v:Du)(j1:Int):List Du->Nat->Int
  |[],_=>j1
  |y1::ys1,i1=>if decide (p_v=y1) then
  (i1:Int)
  else
  Ju p_v j1 ys1 (i1+1)
def Vr(p_s:List Du)(p_v:Du):Int:=
  Ff ((-1)) (λj1=>
  Ju p_v j1 p_s 0)
def Pu(p_s:List Du)(p_v:Du):Bool:=
  decide (0<=(Vr p_s p_v))
def Na(j1:Int->Option Ef):Nat->Int->Int->Option Ef
  |0,_,_=>none
  |m1+1,x1,x2=>if !decide (x2=0) then
  Chk (!decide (x2=0)) (
  Na j1 m1 x2 (Int.tmod x1 x2))
  else
  j1 x1
def Tf(p_num:Int)(p_den:Int):Option Ef:=
  Ff (fun(x1:Int)=>
  Ff (fun(x3:Int)=>
  Chk (!decide (x3=0)) (
  Chk (!decide (x3=0)) (
  some (Ef.mk (W (Int.tdiv p_num x3)) (W (Int.tdiv p_den x3)))))) (λj2=>
  if decide (x1<0) then
  j2 (W (0-x1))
  else
  j2 x1)) (λj1=>
  Na j1 4611686018427387904 p_num p_den)
def Gl(p_x:Du)(p_t:Jh)(j1:(List (ByteArray×Int))->(List Du)->Option Ef):List Du->Nat->(List (ByteArray×Int))->(List Du)->Option Ef
  |[],_,x1,x2=>j1 x1 x2
  |y1::ys1,i1,x1,x2=>Ff (fun(x3:List (ByteArray×Int)) (x4:List Du)=>
  Gl p_x p_t j1 ys1 (i1+1) x3 x4) (λj2=>
  if(((!decide (y1.Race=p_x.Race))||(decide (y1.Rank=0)))||(decide (y1.Club=An))) then
  j2 x1 x2
  else
  Ff (fun(x5:List Du)=>
  j2 (Hp x1 y1.Club (W ((Eh x1 y1.Club 0)+1))) x5) (λj3=>
  if((decide (p_t.Most=0))||(decide ((Eh (Hp x1 y1.Club (W ((Eh x1 y1.Club 0)+1))) y1.Club 0)<=p_t.Most))) then
  Chk (Px x2.length) (
  j3 (x2++[y1]))
  else
  j3 x2))
def Kj(p_x:Du)(p_t:Jh)(j4:Int->Int->Option Ef):List Du->Nat->Int->Int->Option Ef
  |[],_,x6,x7=>j4 x6 x7
  |y2::ys2,i2,x6,x7=>Ff (fun(x8:Int) (x9:Int)=>
  Kj p_x p_t j4 ys2 (i2+1) x8 x9) (λj5=>
  Ff (fun(x10:Int) (x11:Int)=>
  j5 x10 x11) (λj6=>
  if decide (y2.Rank=p_x.Rank) then
  Ff (fun(x12:Int)=>
  j6 x12 (W (x7+1))) (λj7=>
  if decide ((i2:Int)<(p_t.Points.length:Int)) then
  Chk (inB (i2:Int) p_t.Points.length) (
  j7 (W (x6+(nth p_t.Points (i2:Int)))))
  else
  j7 x6)
  else
  j6 x6 x7))
def Ns(p_t:Jh)(p_l:List Du)(p_x:Du):Option Ef:=
  Ff (fun(x1:List (ByteArray×Int)) (x2:List Du)=>
  if !(Pu x2 p_x) then
  some (Ef.mk 0 1)
  else
  Ff (fun(x6:Int) (x7:Int)=>
  Ff (fun(x13:Int)=>
  Option.bind (Tf x13 x7) (λr1=>
  some r1)) (λj8=>
  if p_x.Relay then
  j8 (W (x6*p_t.Relay))
  else
  j8 x6)) (λj4=>
  Kj p_x p_t j4 x2 0 0 0)) (λj1=>
  Gl p_x p_t j1 p_l 0 ([]:List (ByteArray×Int)) ([]:List Du))
def Kf(p_race:ByteArray)(p_p:Iq)(j1:(List Du)->Option ((List Dy)×Int)):List Dy->Nat->(List Du)->Option ((List Dy)×Int)
  |[],_,x1=>j1 x1
  |y1::ys1,i1,x1=>Chk (Px x1.length) (
  Kf p_race p_p j1 ys1 (i1+1) (x1++[(Du.mk p_race y1.Who y1.Club y1.Rank (decide (1<(((Hj p_p.Races p_race).1).Legs))))]))
def Ja(p_p:Iq)(x1:List Du)(j2:(List Dy)->Option ((List Dy)×Int)):List Du->Nat->(List Dy)->Option ((List Dy)×Int)
  |[],_,x2=>j2 x2
  |y2::ys2,i2,x2=>Ff (fun(x3:List Dy)=>
  Ja p_p x1 j2 ys2 (i2+1) x3) (λj3=>
  Ff (fun(x4:List Dy)=>
  j3 x4) (λj4=>
  if(Gj y2) then
  Option.bind (Ns p_p.Table x1 y2) (λr3=>
  Chk (inB (i2:Int) x2.length) (
  j4 (x2.set ((i2:Int).toNat) (Dy.mk ((nth x2 (i2:Int)).Rank) ((nth x2 (i2:Int)).Who) ((nth x2 (i2:Int)).Club) ((nth x2 (i2:Int)).Time) ((nth x2 (i2:Int)).Fault) r3))))
  else
  j4 x2))
def Oe(p_p:Iq)(p_l:List Dt)(p_race:ByteArray)(p_at:Int):Option ((List Dy)×Int):=
  Option.bind (Uy p_p p_l p_race p_at) (λr1=>
  Ff (fun(x1:List Du)=>
  Option.bind (Kb x1) (λr2=>
  if !decide (r2=0) then
  some (([]:List Dy),r2)
  else
  Ff (fun(x2:List Dy)=>
  some (x2,0)) (λj2=>
  Ja p_p x1 j2 x1 0 r1))) (λj1=>
  Kf p_race p_p j1 r1 0 ([]:List Du)))
def Wj(p_n:Int):Option ByteArray:=
  Option.bind (Pt (W (Int.tdiv p_n 10))) (λr1=>
  Option.bind (Pt (Int.tmod p_n 10)) (λr2=>
  Chk (decide (r1.size+r2.size<1073741824)) (
  some (r1++r2))))
def Xx(p_n:Int):Option ByteArray:=
  Option.bind (Pt (Int.tmod (W (Int.tdiv p_n 100)) 60)) (λr1=>
  Chk (decide (r1.size+Xk.size<1073741824)) (
  Option.bind (Wj (Int.tmod p_n 100)) (λr2=>
  Chk (decide ((r1++Xk).size+r2.size<1073741824)) (
  Ff (fun(x1:ByteArray)=>
  some x1) (λj1=>
  if decide (6000<=p_n) then
  Option.bind (Pt (W (Int.tdiv p_n 6000))) (λr3=>
  Chk (decide (r3.size+Zj.size<1073741824)) (
  Option.bind (Wj (Int.tmod (W (Int.tdiv p_n 100)) 60)) (λr4=>
  Chk (decide ((r3++Zj).size+r4.size<1073741824)) (
  Chk (decide (((r3++Zj)++r4).size+Xk.size<1073741824)) (
  Option.bind (Wj (Int.tmod p_n 100)) (λr5=>
  Chk (decide ((((r3++Zj)++r4)++Xk).size+r5.size<1073741824)) (
  j1 ((((r3++Zj)++r4)++Xk)++r5))))))))
  else
  j1 ((r1++Xk)++r2))))))
def Td(p_n:Int):Option ByteArray:=
  if decide (p_n=0) then
  some HQ
  else
  Option.bind (Xx p_n) (λr1=>
  some r1)
def BG(xs:List ByteArray)(sep:ByteArray):Option ByteArray:=
  Chk (decide (xs.length<=140737488355328) && decide ((Lib.join (xs.map (·.data.toList)) sep.data.toList).length<=140737488355328)) (some (⟨(Lib.join (xs.map (·.data.toList)) sep.data.toList).toArray⟩))
def Ni(j1:(List ByteArray)->Option ByteArray):List Int->Nat->(List ByteArray)->Option ByteArray
  |[],_,x1=>j1 x1
  |y1::ys1,i1,x1=>Option.bind (Pt y1) (λr1=>
  Chk (Px x1.length) (
  Ni j1 ys1 (i1+1) (x1++[r1])))
def Wc(p_l:List Int):Option ByteArray:=
  Ff (fun(x1:List ByteArray)=>
  Option.bind (BG x1 Jo) (λr2=>
  some r2)) (λj1=>
  Ni j1 p_l 0 ([]:List ByteArray))
def Lk(p_who:ByteArray)(y1:Ea)(j4:ByteArray->Option ((List ByteArray)×Int)):List Dy->Nat->ByteArray->Option ((List ByteArray)×Int)
  |[],_,x4=>j4 x4
  |y3::ys3,i3,x4=>Ff (fun(x5:ByteArray)=>
  Lk p_who y1 j4 ys3 (i3+1) x5) (λj5=>
  if !decide (y3.Who=p_who) then
  j5 x4
  else
  Ff (fun(x6:ByteArray)=>
  Chk (decide (y1.Key.size+Jo.size<1073741824)) (
  Chk (decide ((y1.Key++Jo).size+x6.size<1073741824)) (
  Chk (decide (((y1.Key++Jo)++x6).size+Jo.size<1073741824)) (
  Option.bind (Td y3.Time) (λr5=>
  Chk (decide ((((y1.Key++Jo)++x6)++Jo).size+r5.size<1073741824)) (
  j5 ((((y1.Key++Jo)++x6)++Jo)++r5))))))) (λj6=>
  if decide (0<y3.Rank) then
  Option.bind (Wc [y3.Rank]) (λr4=>
  j6 r4)
  else
  j6 HQ))
def Jv(p_who:ByteArray)(p_p:Iq)(p_l:List Dt)(y1:Ea)(p_at:Int)(j2:(List ByteArray)->Option ((List ByteArray)×Int)):List Dt->Nat->(List ByteArray)->Option ((List ByteArray)×Int)
  |[],_,x2=>j2 x2
  |y2::ys2,i2,x2=>Ff (fun(x3:List ByteArray)=>
  Jv p_who p_p p_l y1 p_at j2 ys2 (i2+1) x3) (λj3=>
  if !decide (y2.Who=p_who) then
  j3 x2
  else
  Option.bind (Oe p_p p_l y1.Key p_at) (λr2=>
  if !decide (r2.2=0) then
  some (([]:List ByteArray),r2.2)
  else
  Chk (decide (y1.Key.size+Nv.size<1073741824)) (
  Option.bind (Td y2.Time) (λr3=>
  Chk (decide ((y1.Key++Nv).size+r3.size<1073741824)) (
  Ff (fun(x4:ByteArray)=>
  Chk (Px x2.length) (
  j3 (x2++[x4]))) (λj4=>
  Lk p_who y1 j4 r2.1 0 ((y1.Key++Nv)++r3)))))))
def Nb(p_l:List Dt)(p_at:Int)(p_who:ByteArray)(p_p:Iq)(j1:(List ByteArray)->Option ((List ByteArray)×Int)):List Ea->Nat->(List ByteArray)->Option ((List ByteArray)×Int)
  |[],_,x1=>j1 x1
  |y1::ys1,i1,x1=>Option.bind (Sk p_l y1.Key p_at) (λr1=>
  Ff (fun(x2:List ByteArray)=>
  Nb p_l p_at p_who p_p j1 ys1 (i1+1) x2) (λj2=>
  Jv p_who p_p p_l y1 p_at j2 r1 0 x1))
def Uv(p_p:Iq)(p_l:List Dt)(p_who:ByteArray)(p_at:Int):Option ((List ByteArray)×Int):=
  Ff (fun(x1:List ByteArray)=>
  some (x1,0)) (λj1=>
  Nb p_l p_at p_who p_p j1 p_p.Races 0 ([]:List ByteArray))
def Lf(p_p:Iq)(p_l:List Dt)(p_from:Int)(p_to:Int)(j1:(List ByteArray)->Option ((List ByteArray)×Int)):List Ea->Nat->(List ByteArray)->Option ((List ByteArray)×Int)
  |[],_,x1=>j1 x1
  |y1::ys1,i1,x1=>Ff (fun(x2:List ByteArray)=>
  Lf p_p p_l p_from p_to j1 ys1 (i1+1) x2) (λj2=>
  Option.bind (Oe p_p p_l y1.Key p_from) (λr1=>
  Option.bind (Oe p_p p_l y1.Key p_to) (λr2=>
  if((!decide (r1.2=0))||(!decide (r2.2=0))) then
  some (([]:List ByteArray),12)
  else
  Option.bind (Tc r1.1 r2.1) (λr3=>
  Ff (fun(x3:List ByteArray)=>
  j2 x3) (λj3=>
  if !r3 then
  Chk (Px x1.length) (
  j3 (x1++[y1.Key]))
  else
  j3 x1)))))
def Ud(p_p:Iq)(p_l:List Dt)(p_from:Int)(p_to:Int):Option ((List ByteArray)×Int):=
  Ff (fun(x1:List ByteArray)=>
  some (x1,0)) (λj1=>
  Lf p_p p_l p_from p_to j1 p_p.Races 0 ([]:List ByteArray))
def Ko(p_s2:List ByteArray)(j1:Option Bool):List ByteArray->Nat->Option Bool
  |[],_=>j1
  |y1::ys1,i1=>Chk (inB (i1:Int) p_s2.length) (
  if !decide (y1=(nth p_s2 (i1:Int))) then
  some false
  else
  Ko p_s2 j1 ys1 (i1+1))
def Rv(p_s1:List ByteArray)(p_s2:List ByteArray):Option Bool:=
  if !decide ((p_s1.length:Int)=(p_s2.length:Int)) then
  some false
  else
  Ff (some true) (λj1=>
  Ko p_s2 j1 p_s1 0)
def JH(p_p:Iq)(p_l:List Dt)(p_race:ByteArray)(p_at:Int):Option ((Option Kq)×Ea×Int):=
  Option.bind (Uu p_p p_l ([p_at]:List Int)) (λr1=>
  if !decide (r1.2=0) then
  some (none,(Ea.mk An 0 0 0 0 0 0 0),r1.2)
  else
  Option.bind (r1.1) (λr2=>
  Option.bind (Xm r2.p_ r2.deeds_ p_race) (λr3=>
  some (some r2,r3.1,r3.2))))
def Ql(j1:(List Jn)->Option (List Jn)):List Dt->Nat->(List Jn)->Option (List Jn)
  |[],_,x1=>j1 x1
  |y1::ys1,i1,x1=>Chk (Px x1.length) (
  Ql j1 ys1 (i1+1) (x1++[(Jn.mk y1.Who y1.Time)]))
def CH(p_s_p:Iq)(p_s_deeds:List Dt)(p_race:ByteArray):Option (List Jn):=
  Option.bind (Tp p_s_p p_s_deeds p_race) (λr1=>
  Ff (fun(x1:List Jn)=>
  some x1) (λj1=>
  Ql j1 r1 0 ([]:List Jn)))
def BH(p_p:Iq)(p_l:List Dt)(p_race:ByteArray)(p_at:Int):Option ((List Jn)×Int):=
  Option.bind (JH p_p p_l p_race p_at) (λr1=>
  if !decide (r1.2.2=0) then
  some (([]:List Jn),r1.2.2)
  else
  Option.bind (r1.1) (λr2=>
  Option.bind (CH r2.p_ r2.deeds_ p_race) (λr3=>
  some (r3,0))))
def Zn:Option Bool:=
  Option.bind (BH (Iq.mk ([(Ea.mk k_r 50 1 50 1 0 0 0)]:List Ea) (Jh.mk ([]:List Int) 1 0) (Qe.mk 1 1 0)) [(Dt.mk k_s 1 0 1 k_a An k_r 5 0 An 0)] k_r 0) (λr1=>
  Ff (fun(c1:Bool)=>
  some c1) (λj1=>
  if((decide (r1.2=0)) && (decide ((r1.1.length:Int)=1))) then Chk (inB 0 r1.1.length) (
  j1 (((decide (r1.2=0)) && (decide ((r1.1.length:Int)=1))) && (decide (((nth r1.1 0).Time)=5)))) else j1 (((decide (r1.2=0)) && (decide ((r1.1.length:Int)=1))) && true)))
def Vs(p_l:List Int):Option Bool:=
  Option.bind (Wq p_l 0) (λr1=>
  Option.bind (Tw p_l r1.2 14) (λr2=>
  Option.bind (Us p_l r2.2) (λr3=>
  Option.bind (Us p_l r3.2) (λr4=>
  Option.bind (Pd p_l r4.2 [Za,CG,k_a,k_A]) (λr5=>
  Option.bind (GV r1.1 r2.1 r5.1 r3.1) (λr6=>
  Option.bind (Xv r1.1 r2.1 r3.1 r4.1) (λr7=>
  Option.bind (Mi r1.1 r2.1 r3.1) (λr8=>
  Option.bind (Mi r1.1 r2.1 r3.1) (λr9=>
  Ff (fun(x1:Int)=>
  Ff (fun(x2:Int)=>
  Ff (fun(x3:Int) (x4:List ByteArray)=>
  Ff (fun(c1:Bool)=>
  Ff (fun(x5:Int) (x6:List ByteArray)=>
  Ff (fun(x7:Int) (x8:List ByteArray)=>
  Ff (fun(c2:Bool)=>
  Ff (fun(c3:Bool)=>
  Ff (fun(c4:Bool)=>
  some c4) (λj9=>
  if c3 then Option.bind (Zn) (λr18=>
  j9 (c3 && r18)) else j9 (c3 && true))) (λj8=>
  if(c2 && (decide (r7.2=x7))) then Option.bind (Rv r7.1 x8) (λr17=>
  j8 ((c2 && (decide (r7.2=x7))) && r17)) else j8 ((c2 && (decide (r7.2=x7))) && true))) (λj7=>
  if(decide (r6.2=x5)) then Option.bind (Rv r6.1 x6) (λr16=>
  j7 ((decide (r6.2=x5)) && r16)) else j7 ((decide (r6.2=x5)) && true))) (λj6=>
  if decide (x2=0) then
  Option.bind (Ud r1.1 r2.1 r3.1 r4.1) (λr15=>
  j6 r15.2 r15.1)
  else
  j6 x2 ([]:List ByteArray))) (λj5=>
  if c1 then
  j5 5 ([]:List ByteArray)
  else
  j5 x3 x4)) (λj4=>
  if(decide (x3=0)) then Option.bind (Mt r5.1) (λr14=>
  j4 ((decide (x3=0)) && (!r14))) else j4 ((decide (x3=0)) && true))) (λj3=>
  if decide (x1=0) then
  Option.bind (Uv r1.1 r2.1 r5.1 r3.1) (λr13=>
  j3 r13.2 r13.1)
  else
  j3 x1 ([]:List ByteArray))) (λj2=>
  if decide ((Io [r9,(Fx r4.1)])=0) then
  Option.bind (Ny r1.1 r2.1 r3.1) (λr11=>
  Option.bind (Ny r1.1 r2.1 r4.1) (λr12=>
  j2 (Io [r11,r12])))
  else
  j2 (Io [r9,(Fx r4.1)]))) (λj1=>
  if decide (r8=0) then
  Option.bind (Ny r1.1 r2.1 r3.1) (λr10=>
  j1 r10)
  else
  j1 r8))))))))))
theorem twin_eqs:True:=by
  have h:=@Ki.eq_def;clear h;have h:=@Ki.eq_1;clear h;have h:=@Ki.eq_2;clear h;have h:=@Lt.eq_def;clear h;have h:=@Lt.eq_1;clear h;have h:=@Lt.eq_2;clear h;have h:=@Kk.eq_def;clear h;have h:=@Kk.eq_1;clear h;have h:=@Kk.eq_2;clear h;have h:=@Mh.eq_def;clear h;have h:=@Mh.eq_1;clear h;have h:=@Mh.eq_2;clear h;have h:=@Lu.eq_def;clear h;have h:=@Lu.eq_1;clear h;have h:=@Lu.eq_2;clear h;have h:=@Eo.eq_def;clear h;have h:=@Eo.eq_1;clear h;have h:=@Eo.eq_2;clear h;have h:=@Fb.eq_def;clear h;have h:=@Fb.eq_1;clear h;have h:=@Fb.eq_2;clear h;have h:=@Gd.eq_def;clear h;have h:=@Gd.eq_1;clear h;have h:=@Gd.eq_2;clear h;have h:=@Hl.eq_def;clear h;have h:=@Hl.eq_1;clear h;have h:=@Hl.eq_2;clear h;have h:=@Ge.eq_def;clear h;have h:=@Ge.eq_1;clear h;have h:=@Ge.eq_2;clear h;have h:=@Pj.eq_def;clear h;have h:=@Pj.eq_1;clear h;have h:=@Pj.eq_2;clear h;have h:=@Gh.eq_def;clear h;have h:=@Gh.eq_1;clear h;have h:=@Gh.eq_2;clear h;have h:=@Lv.eq_def;clear h;have h:=@Lv.eq_1;clear h;have h:=@Lv.eq_2;clear h;have h:=@Nw.eq_def;clear h;have h:=@Nw.eq_1;clear h;have h:=@Nw.eq_2;clear h;have h:=@On.eq_def;clear h;have h:=@On.eq_1;clear h;have h:=@On.eq_2;clear h;have h:=@Iw.eq_def;clear h;have h:=@Iw.eq_1;clear h;have h:=@Iw.eq_2;clear h;have h:=@Lc.eq_def;clear h;have h:=@Lc.eq_1;clear h;have h:=@Lc.eq_2;clear h;have h:=@Mn.eq_def;clear h;have h:=@Mn.eq_1;clear h;have h:=@Mn.eq_2;clear h;have h:=@Og.eq_def;clear h;have h:=@Og.eq_1;clear h;have h:=@Og.eq_2;clear h;have h:=@Pq.eq_def;clear h;have h:=@Pq.eq_1;clear h;have h:=@Pq.eq_2;clear h;have h:=@Fv.eq_def;clear h;have h:=@Fv.eq_1;clear h;have h:=@Fv.eq_2;clear h;have h:=@Nk.eq_def;clear h;have h:=@Nk.eq_1;clear h;have h:=@Nk.eq_2;clear h;have h:=@Oo.eq_def;clear h;have h:=@Oo.eq_1;clear h;have h:=@Oo.eq_2;clear h;have h:=@So.eq_def;clear h;have h:=@So.eq_1;clear h;have h:=@So.eq_2;clear h;have h:=@Fo.eq_def;clear h;have h:=@Fo.eq_1;clear h;have h:=@Fo.eq_2;clear h;have h:=@Rh.eq_def;clear h;have h:=@Rh.eq_1;clear h;have h:=@Rh.eq_2;clear h;have h:=@Mz.eq_def;clear h;have h:=@Mz.eq_1;clear h;have h:=@Mz.eq_2;clear h;have h:=@Kl.eq_def;clear h;have h:=@Kl.eq_1;clear h;have h:=@Kl.eq_2;clear h;have h:=@Eu.eq_def;clear h;have h:=@Eu.eq_1;clear h;have h:=@Eu.eq_2;clear h;have h:=@Fk.eq_def;clear h;have h:=@Fk.eq_1;clear h;have h:=@Fk.eq_2;clear h;have h:=@Gq.eq_def;clear h;have h:=@Gq.eq_1;clear h;have h:=@Gq.eq_2;clear h;have h:=@Hz.eq_def;clear h;have h:=@Hz.eq_1;clear h;have h:=@Hz.eq_2;clear h;have h:=@Gt.eq_def;clear h;have h:=@Gt.eq_1;clear h;have h:=@Gt.eq_2;clear h;have h:=@Ri.eq_def;clear h;have h:=@Ri.eq_1;clear h;have h:=@Ri.eq_2;clear h;have h:=@Qg.eq_def;clear h;have h:=@Qg.eq_1;clear h;have h:=@Qg.eq_2;clear h;have h:=@Qh.eq_def;clear h;have h:=@Qh.eq_1;clear h;have h:=@Qh.eq_2;clear h;have h:=@Oh.eq_def;clear h;have h:=@Oh.eq_1;clear h;have h:=@Oh.eq_2;clear h;have h:=@Ep.eq_def;clear h;have h:=@Ep.eq_1;clear h;have h:=@Ep.eq_2;clear h;have h:=@Fd.eq_def;clear h;have h:=@Fd.eq_1;clear h;have h:=@Fd.eq_2;clear h;have h:=@Gf.eq_def;clear h;have h:=@Gf.eq_1;clear h;have h:=@Gf.eq_2;clear h;have h:=@Hm.eq_def;clear h;have h:=@Hm.eq_1;clear h;have h:=@Hm.eq_2;clear h;have h:=@Gg.eq_def;clear h;have h:=@Gg.eq_1;clear h;have h:=@Gg.eq_2;clear h;have h:=@Pk.eq_def;clear h;have h:=@Pk.eq_1;clear h;have h:=@Pk.eq_2;clear h;have h:=@Nj.eq_def;clear h;have h:=@Nj.eq_1;clear h;have h:=@Nj.eq_2;clear h;have h:=@Fp.eq_def;clear h;have h:=@Fp.eq_1;clear h;have h:=@Fp.eq_2;clear h;have h:=@Lh.eq_def;clear h;have h:=@Lh.eq_1;clear h;have h:=@Lh.eq_2;clear h;have h:=@Me.eq_def;clear h;have h:=@Me.eq_1;clear h;have h:=@Me.eq_2;clear h;have h:=@Mf.eq_def;clear h;have h:=@Mf.eq_1;clear h;have h:=@Mf.eq_2;clear h;have h:=@Li.eq_def;clear h;have h:=@Li.eq_1;clear h;have h:=@Li.eq_2;clear h;have h:=@Iy.eq_def;clear h;have h:=@Iy.eq_1;clear h;have h:=@Iy.eq_2;clear h;have h:=@Lj.eq_def;clear h;have h:=@Lj.eq_1;clear h;have h:=@Lj.eq_2;clear h;have h:=@Gu.eq_def;clear h;have h:=@Gu.eq_1;clear h;have h:=@Gu.eq_2;clear h;have h:=@Nx.eq_def;clear h;have h:=@Nx.eq_1;clear h;have h:=@Nx.eq_2;clear h;have h:=@Nl.eq_def;clear h;have h:=@Nl.eq_1;clear h;have h:=@Nl.eq_2;clear h;have h:=@Qi.eq_def;clear h;have h:=@Qi.eq_1;clear h;have h:=@Qi.eq_2;clear h;have h:=@Nm.eq_def;clear h;have h:=@Nm.eq_1;clear h;have h:=@Nm.eq_2;clear h;have h:=@Ms.eq_def;clear h;have h:=@Ms.eq_1;clear h;have h:=@Ms.eq_2;clear h;have h:=@Qj.eq_def;clear h;have h:=@Qj.eq_1;clear h;have h:=@Qj.eq_2;clear h;have h:=@Oi.eq_def;clear h;have h:=@Oi.eq_1;clear h;have h:=@Oi.eq_2;clear h;have h:=@Nn.eq_def;clear h;have h:=@Nn.eq_1;clear h;have h:=@Nn.eq_2;clear h;have h:=@Np.eq_def;clear h;have h:=@Np.eq_1;clear h;have h:=@Np.eq_2;clear h;have h:=@Mo.eq_def;clear h;have h:=@Mo.eq_1;clear h;have h:=@Mo.eq_2;clear h;have h:=@Ry.eq_def;clear h;have h:=@Ry.eq_1;clear h;have h:=@Ry.eq_2;clear h;have h:=@Tq.eq_def;clear h;have h:=@Tq.eq_1;clear h;have h:=@Tq.eq_2;clear h;have h:=@Lw.eq_def;clear h;have h:=@Lw.eq_1;clear h;have h:=@Lw.eq_2;clear h;have h:=@Pm.eq_def;clear h;have h:=@Pm.eq_1;clear h;have h:=@Pm.eq_2;clear h;have h:=@Jr.eq_def;clear h;have h:=@Jr.eq_1;clear h;have h:=@Jr.eq_2;clear h;have h:=@Km.eq_def;clear h;have h:=@Km.eq_1;clear h;have h:=@Km.eq_2;clear h;have h:=@Le.eq_def;clear h;have h:=@Le.eq_1;clear h;have h:=@Le.eq_2;clear h;have h:=@Nq.eq_def;clear h;have h:=@Nq.eq_1;clear h;have h:=@Nq.eq_2;clear h;have h:=@Ez.eq_def;clear h;have h:=@Ez.eq_1;clear h;have h:=@Ez.eq_2;clear h;have h:=@It.eq_def;clear h;have h:=@It.eq_1;clear h;have h:=@It.eq_2;clear h;have h:=@Js.eq_def;clear h;have h:=@Js.eq_1;clear h;have h:=@Js.eq_2;clear h;have h:=@Lz.eq_def;clear h;have h:=@Lz.eq_1;clear h;have h:=@Lz.eq_2;clear h;have h:=@Hq.eq_def;clear h;have h:=@Hq.eq_1;clear h;have h:=@Hq.eq_2;clear h;have h:=@Jt.eq_def;clear h;have h:=@Jt.eq_1;clear h;have h:=@Jt.eq_2;clear h;have h:=@Im.eq_def;clear h;have h:=@Im.eq_1;clear h;have h:=@Im.eq_2;clear h;have h:=@Mu.eq_def;clear h;have h:=@Mu.eq_1;clear h;have h:=@Mu.eq_2;clear h;have h:=@Fz.eq_def;clear h;have h:=@Fz.eq_1;clear h;have h:=@Fz.eq_2;clear h;have h:=@Ll.eq_def;clear h;have h:=@Ll.eq_1;clear h;have h:=@Ll.eq_2;clear h;have h:=@Lx.eq_def;clear h;have h:=@Lx.eq_1;clear h;have h:=@Lx.eq_2;clear h;have h:=@Oq.eq_def;clear h;have h:=@Oq.eq_1;clear h;have h:=@Oq.eq_2;clear h;have h:=@En.eq_def;clear h;have h:=@En.eq_1;clear h;have h:=@En.eq_2;clear h;have h:=@Fa.eq_def;clear h;have h:=@Fa.eq_1;clear h;have h:=@Fa.eq_2;clear h;have h:=@Ft.eq_def;clear h;have h:=@Ft.eq_1;clear h;have h:=@Ft.eq_2;clear h;have h:=@Hg.eq_def;clear h;have h:=@Hg.eq_1;clear h;have h:=@Hg.eq_2;clear h;have h:=@Fu.eq_def;clear h;have h:=@Fu.eq_1;clear h;have h:=@Fu.eq_2;clear h;have h:=@Kr.eq_def;clear h;have h:=@Kr.eq_1;clear h;have h:=@Kr.eq_2;clear h;have h:=@Ks.eq_def;clear h;have h:=@Ks.eq_1;clear h;have h:=@Ks.eq_2;clear h;have h:=@Ka.eq_def;clear h;have h:=@Ka.eq_1;clear h;have h:=@Ka.eq_2;clear h;have h:=@Ew.eq_def;clear h;have h:=@Ew.eq_1;clear h;have h:=@Ew.eq_2;clear h;have h:=@Iu.eq_def;clear h;have h:=@Iu.eq_1;clear h;have h:=@Iu.eq_2;clear h;have h:=@Iv.eq_def;clear h;have h:=@Iv.eq_1;clear h;have h:=@Iv.eq_2;clear h;have h:=@Ke.eq_def;clear h;have h:=@Ke.eq_1;clear h;have h:=@Ke.eq_2;clear h;have h:=@Ju.eq_def;clear h;have h:=@Ju.eq_1;clear h;have h:=@Ju.eq_2;clear h;have h:=@Na.eq_def;clear h;have h:=@Na.eq_1;clear h;have h:=@Na.eq_2;clear h;have h:=@Gl.eq_def;clear h;have h:=@Gl.eq_1;clear h;have h:=@Gl.eq_2;clear h;have h:=@Kj.eq_def;clear h;have h:=@Kj.eq_1;clear h;have h:=@Kj.eq_2;clear h;have h:=@Kf.eq_def;clear h;have h:=@Kf.eq_1;clear h;have h:=@Kf.eq_2;clear h;have h:=@Ja.eq_def;clear h;have h:=@Ja.eq_1;clear h;have h:=@Ja.eq_2;clear h;have h:=@Ni.eq_def;clear h;have h:=@Ni.eq_1;clear h;have h:=@Ni.eq_2;clear h;have h:=@Lk.eq_def;clear h;have h:=@Lk.eq_1;clear h;have h:=@Lk.eq_2;clear h;have h:=@Jv.eq_def;clear h;have h:=@Jv.eq_1;clear h;have h:=@Jv.eq_2;clear h;have h:=@Nb.eq_def;clear h;have h:=@Nb.eq_1;clear h;have h:=@Nb.eq_2;clear h;have h:=@Lf.eq_def;clear h;have h:=@Lf.eq_1;clear h;have h:=@Lf.eq_2;clear h;have h:=@Ko.eq_def;clear h;have h:=@Ko.eq_1;clear h;have h:=@Ko.eq_2;clear h;have h:=@Ql.eq_def;clear h;have h:=@Ql.eq_1;clear h;have h:=@Ql.eq_2;clear h;have h:=@Je.eq_def;clear h;have h:=@Je.eq_1;clear h;have h:=@Je.eq_2;clear h;trivial
end
end Go.Proofs.YtconmpkpdfidiaaGreatDoor
