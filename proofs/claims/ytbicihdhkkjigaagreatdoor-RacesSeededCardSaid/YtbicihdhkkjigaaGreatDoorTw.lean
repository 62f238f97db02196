/- The Go functions as plain Lean functions,by program. -/
import Derived.Test.YtbicihdhkkjigaaGreatDoorBase
namespace Go.Proofs.YtbicihdhkkjigaaGreatDoor
open Go
noncomputable section
structure XX where
  L:List Int
  at_:Int
  deriving DecidableEq,Inhabited
structure Ek where
  Key:ByteArray
  Metres:Int
  Stroke:Int
  Course:Int
  Legs:Int
  Sex:Int
  Young:Int
  Old:Int
  deriving DecidableEq,Inhabited
structure Qy where
  Points:List Int
  Relay:Int
  Most:Int
  deriving DecidableEq,Inhabited
structure Hn where
  Size:Int
  Many:Int
  Reserves:Int
  deriving DecidableEq,Inhabited
structure Lc where
  Races:List Ek
  Table:Qy
  Final:Hn
  deriving DecidableEq,Inhabited
structure Fq where
  Low:Int
  High:Int
  Least:Int
  Circles:Int
  deriving DecidableEq,Inhabited
structure An where
  Site:ByteArray
  No:Int
  At:Int
  Kind:Int
  Who:ByteArray
  Club:ByteArray
  Race:ByteArray
  Time:Int
  Fault:Int
  Of:ByteArray
  Other:Int
  deriving DecidableEq,Inhabited
structure Mp where
  p_:Lc
  deeds_:List An
  deriving DecidableEq,Inhabited
structure Fh where
  site_:ByteArray
  no_:Int
  deriving DecidableEq,Inhabited
structure Ee where
  Who:ByteArray
  Time:Int
  deriving DecidableEq,Inhabited
structure Eo where
  Who:ByteArray
  Heat:Int
  Lane:Int
  deriving DecidableEq,Inhabited
structure Gh where
  Who:ByteArray
  Final:Int
  Rank:Int
  deriving DecidableEq,Inhabited
structure Js where
  Who:ByteArray
  Fault:Int
  Reports:List ByteArray
  deriving DecidableEq,Inhabited
structure Eg where
  Who:ByteArray
  Rank:Int
  Time:Int
  Fault:Int
  deriving DecidableEq,Inhabited
structure Ky where
  Num:Int
  Den:Int
  deriving DecidableEq,Inhabited
structure El where
  Rank:Int
  Who:ByteArray
  Club:ByteArray
  Time:Int
  Fault:Int
  Points:Ky
  deriving DecidableEq,Inhabited
def Ed:ByteArray:=⟨#[]⟩
def Oc:ByteArray:=⟨#[114,97]⟩
def Wz:ByteArray:=⟨#[114,98]⟩
def BK:ByteArray:=⟨#[114,99]⟩
def Ry:ByteArray:=⟨#[115,97]⟩
def Sl:ByteArray:=⟨#[98,108,117,101]⟩
def JT:ByteArray:=⟨#[115,98]⟩
def CP:ByteArray:=⟨#[97,110,110]⟩
def MC:ByteArray:=⟨#[98,101,97]⟩
def ME:ByteArray:=⟨#[99,105,100]⟩
def MG:ByteArray:=⟨#[100,97,110]⟩
def UI:ByteArray:=⟨#[114,122]⟩
def DV:ByteArray:=⟨#[114,101,100]⟩
def k_A:ByteArray:=⟨#[65]⟩
def XY:ByteArray:=⟨#[122,122]⟩
def Hu:ByteArray:=⟨#[97,98,99,100,101,102,103,104,105,106,107,108,109,110,111,112,113,114,115,116,117,118,119,120,121,122,48,49,50,51,52,53,54,55,56,57,45,95]⟩
def Jo:ByteArray:=⟨#[97,98,99,100,101,102,103,104,105,106,107,108,109,110,111,112,113,114,115,116,117,118,119,120,121,122]⟩
def k_r:ByteArray:=⟨#[114]⟩
def k_s:ByteArray:=⟨#[115]⟩
def k_a:ByteArray:=⟨#[97]⟩
def Th(p_x:Int)(p_n:Int):Option Int:=
  if decide (p_n<1) then
  some 0
  else
  Chk (!decide (p_n=0)) (
  Fm (fun(x1:Int)=>
  some x1) (λj1=>
  if decide ((Int.tmod p_x p_n)<0) then
  j1 (W ((Int.tmod p_x p_n)+p_n))
  else
  j1 (Int.tmod p_x p_n)))
def Rw(p_s_L:List Int)(p_s_at:Int)(p_n:Int):Option (Int×Int):=
  if decide ((p_s_L.length:Int)=0) then
  Option.bind (Th (W ((W (p_s_at+1))*7919)) p_n) (λr1=>
  some (r1,W (p_s_at+1)))
  else
  Chk (!decide ((p_s_L.length:Int)=0)) (
  Chk (!decide ((p_s_L.length:Int)=0)) (
  Chk (inB (Int.tmod (W ((W (p_s_at+1))-1)) (p_s_L.length:Int)) p_s_L.length) (
  Option.bind (Th (nth p_s_L (Int.tmod (W ((W (p_s_at+1))-1)) (p_s_L.length:Int))) 1073741824) (λr2=>
  Option.bind (Th (W (r2+(W ((W (Int.tdiv (W ((W (p_s_at+1))-1)) (p_s_L.length:Int)))*(W (7919+(Int.tmod (W ((W (p_s_at+1))-1)) (p_s_L.length:Int)))))))) p_n) (λr3=>
  some (r3,W (p_s_at+1)))))))
def Qd(p_s_L:List Int)(p_s_at:Int)(p_n:Int):Option (Bool×Int):=
  Option.bind (Rw p_s_L p_s_at p_n) (λr1=>
  some (decide (r1.1=0),r1.2))
def Jk(p_s_L:List Int)(p_s_at:Int)(p_l:List Int):Option (Int×Int):=
  Option.bind (Rw p_s_L p_s_at (p_l.length:Int)) (λr1=>
  Chk (inB r1.1 p_l.length) (
  some ((nth p_l r1.1),r1.2)))
def St(p_s_L:List Int)(p_s_at:Int)(p_key:ByteArray):Option (Ek×Int):=
  Option.bind (Jk p_s_L p_s_at [50,100,200]) (λr1=>
  Option.bind (Jk p_s_L r1.2 [1,2,3,4]) (λr2=>
  Option.bind (Jk p_s_L r2.2 [25,50]) (λr3=>
  Option.bind (Jk p_s_L r3.2 [1,1,1,4]) (λr4=>
  Option.bind (Jk p_s_L r4.2 [0,1,2]) (λr5=>
  Option.bind (Jk p_s_L r5.2 [0,0,5,10]) (λr6=>
  Option.bind (Jk p_s_L r6.2 [0,5,90]) (λr7=>
  some ((Ek.mk p_key r1.1 r2.1 r3.1 r4.1 r5.1 r6.1 (W (r6.1+r7.1))),r7.2))))))))
def Kr(p_s_L:List Int)(j1:(List Ek)->Int->Option ((List Ek)×Int)):List ByteArray->Nat->(List Ek)->Int->Option ((List Ek)×Int)
  |[],_,x1,x2=>j1 x1 x2
  |y1::ys1,i1,x1,x2=>Fm (fun(x3:List Ek) (x4:Int)=>
  Kr p_s_L j1 ys1 (i1+1) x3 x4) (λj2=>
  Option.bind (Qd p_s_L x2 6) (λr1=>
  Fm (fun(x5:List Ek) (x6:Int)=>
  j2 x5 x6) (λj3=>
  if !r1.1 then
  Option.bind (St p_s_L r1.2 y1) (λr2=>
  Chk (Ok x1.length) (
  j3 (x1++[r2.1]) r2.2))
  else
  j3 x1 r1.2)))
def Sc(p_s_L:List Int)(p_s_at:Int):Option ((List Ek)×Int):=
  Fm (fun(x1:List Ek) (x2:Int)=>
  some (x1,x2)) (λj1=>
  Kr p_s_L j1 ([Oc,Wz,BK]:List ByteArray) 0 ([]:List Ek) p_s_at)
def Pc(p_s_L:List Int)(p_s_at:Int)(p_low:Int)(p_high:Int):Option (Int×Int):=
  if decide (p_high<p_low) then
  some (p_low,p_s_at)
  else
  Option.bind (Rw p_s_L p_s_at (W ((W (p_high-p_low))+1))) (λr1=>
  some (W (p_low+r1.1),r1.2))
def Lv(r4:Int×Int)(p_s_L:List Int)(j1:(List Int)->Int->Option (Qy×Int)):Nat->(List Int)->Int->Int->Int->Option (Qy×Int)
  |0,_,_,_,_=>none
  |m1+1,x1,x2,x3,x4=>if decide (x4<r4.1) then
  Chk (Ok x1.length) (
  Option.bind (Jk p_s_L x2 [0,1,2,3]) (λr5=>
  Lv r4 p_s_L j1 m1 (x1++[x3]) r5.2 (HZ 0 (W (x3-r5.1))) (W (x4+1))))
  else
  j1 x1 x2
def Sp(p_s_L:List Int)(p_s_at:Int):Option (Qy×Int):=
  Option.bind (Jk p_s_L p_s_at [1,2]) (λr1=>
  Option.bind (Jk p_s_L r1.2 [0,0,1,2]) (λr2=>
  Option.bind (Jk p_s_L r2.2 [10,9,7,5]) (λr3=>
  Option.bind (Pc p_s_L r3.2 0 5) (λr4=>
  Fm (fun(x1:List Int) (x2:Int)=>
  some ((Qy.mk x1 r1.1 r2.1),x2)) (λj1=>
  Lv r4 p_s_L j1 ((r4.1-0).toNat+2) ([]:List Int) r4.2 r3.1 0)))))
def Ku(j1:(List Ek)->Option (List Ek)):Nat->(List Ek)->Int->Int->Option (List Ek)
  |0,_,_,_=>none
  |m1+1,x1,x2,x3=>if decide (x2<x3) then
  Chk (inB x3 x1.length) (
  Chk (inB x2 x1.length) (
  Chk (inB x2 x1.length) (
  Chk (inB x3 (x1.set x2.toNat (nth x1 x3)).length) (
  Ku j1 m1 ((x1.set x2.toNat (nth x1 x3)).set x3.toNat (nth x1 x2)) (W (x2+1)) (W (x3-1))))))
  else
  j1 x1
def Sy(p_s:List Ek):Option (List Ek):=
  Fm (fun(x1:List Ek)=>
  some x1) (λj1=>
  Ku j1 (((W ((p_s.length:Int)-1))-0).toNat+2) p_s 0 (W ((p_s.length:Int)-1)))
def Vc(p_s_L:List Int)(p_s_at:Int):Option (Lc×Int):=
  Option.bind (Sc p_s_L p_s_at) (λr1=>
  Option.bind (Sp p_s_L r1.2) (λr2=>
  Option.bind (Pc p_s_L r2.2 1 3) (λr3=>
  Option.bind (Pc p_s_L r3.2 1 2) (λr4=>
  Option.bind (Pc p_s_L r4.2 0 2) (λr5=>
  Option.bind (Sy r1.1) (λr6=>
  some ((Lc.mk r6 r2.1 (Hn.mk r3.1 r4.1 r5.1)),r5.2)))))))
def Pk(p_s_L:List Int)(p_s_at:Int)(p_l:List ByteArray):Option (ByteArray×Int):=
  Option.bind (Rw p_s_L p_s_at (p_l.length:Int)) (λr1=>
  Chk (inB r1.1 p_l.length) (
  some ((nth p_l r1.1),r1.2)))
def Nv(p_s_L:List Int)(p_s_at:Int)(p_low:Int)(p_high:Int):Option (Int×Int):=
  Option.bind (Qd p_s_L p_s_at 12) (λr1=>
  if r1.1 then
  Option.bind (Jk p_s_L r1.2 [W (p_low-1),W (p_high+1),p_low,p_high,(-1099511627776),1099511627776]) (λr2=>
  some (r2.1,r2.2))
  else
  Option.bind (Pc p_s_L r1.2 p_low p_high) (λr3=>
  some (r3.1,r3.2)))
def Ti(p_s_L:List Int)(p_s_at:Int):Option ((List Ek)×Int):=
  Option.bind (Sc p_s_L p_s_at) (λr1=>
  Fm (fun(x1:Int) (x2:Bool)=>
  Fm (fun(x3:List Ek) (x4:Int)=>
  some (x3,x4)) (λj2=>
  if x2 then
  Option.bind (Rw p_s_L x1 (r1.1.length:Int)) (λr3=>
  Chk (inB r3.1 r1.1.length) (
  Option.bind (Pk p_s_L r3.2 [(nth r1.1 r3.1).Key,Ed,Oc]) (λr4=>
  Option.bind (Nv p_s_L r4.2 1 4) (λr5=>
  Option.bind (Jk p_s_L r5.2 [25,50,33]) (λr6=>
  Option.bind (Jk p_s_L r6.2 [0,1,2,3]) (λr7=>
  j2 ((((r1.1.set r3.1.toNat (Ek.mk r4.1 ((nth r1.1 r3.1).Metres) ((nth r1.1 r3.1).Stroke) ((nth r1.1 r3.1).Course) ((nth r1.1 r3.1).Legs) ((nth r1.1 r3.1).Sex) ((nth r1.1 r3.1).Young) ((nth r1.1 r3.1).Old))).set r3.1.toNat (Ek.mk r4.1 ((nth r1.1 r3.1).Metres) ((nth r1.1 r3.1).Stroke) ((nth r1.1 r3.1).Course) r5.1 ((nth r1.1 r3.1).Sex) ((nth r1.1 r3.1).Young) ((nth r1.1 r3.1).Old))).set r3.1.toNat (Ek.mk r4.1 ((nth r1.1 r3.1).Metres) ((nth r1.1 r3.1).Stroke) r6.1 r5.1 ((nth r1.1 r3.1).Sex) ((nth r1.1 r3.1).Young) ((nth r1.1 r3.1).Old))).set r3.1.toNat (Ek.mk r4.1 ((nth r1.1 r3.1).Metres) ((nth r1.1 r3.1).Stroke) r6.1 r5.1 r7.1 ((nth r1.1 r3.1).Young) ((nth r1.1 r3.1).Old))) r7.2))))))
  else
  j2 r1.1 x1)) (λj1=>
  if(decide (0<(r1.1.length:Int))) then
  Option.bind (Qd p_s_L r1.2 12) (λr2=>
  j1 r2.2 r2.1)
  else
  j1 r1.2 false))
def Vd(p_s:List Int):Option (List Int):=
  Chk (decide ((([]:List Int):List Int).length+p_s.length<1073741824)) (
  some ((([]:List Int):List Int)++p_s))
def Zc(p_s_L:List Int)(p_s_at:Int):Option (Qy×Int):=
  Option.bind (Sp p_s_L p_s_at) (λr1=>
  Option.bind (Qd p_s_L r1.2 12) (λr2=>
  Fm (fun(x1:List Int) (x2:Int) (x3:Int) (x4:Int)=>
  some ((Qy.mk x1 x2 x3),x4)) (λj1=>
  if r2.1 then
  Option.bind (Nv p_s_L r2.2 1 10) (λr3=>
  Option.bind (Nv p_s_L r3.2 0 10) (λr4=>
  Option.bind (Vd r1.1.Points) (λr5=>
  Option.bind (Nv p_s_L r4.2 0 20) (λr6=>
  Chk (Ok r5.length) (
  j1 (r5++[r6.1]) r3.1 r4.1 r6.2)))))
  else
  j1 r1.1.Points r1.1.Relay r1.1.Most r2.2)))
def Wf(p_s_L:List Int)(p_s_at:Int):Option (Lc×Int):=
  Option.bind (Vc p_s_L p_s_at) (λr1=>
  Option.bind (Qd p_s_L r1.2 12) (λr2=>
  Fm (fun(x1:List Int) (x2:Int) (x3:Int) (x4:Int) (x5:Int) (x6:Int) (x7:List Ek) (x8:Int)=>
  some ((Lc.mk x7 (Qy.mk x1 x2 x3) (Hn.mk x4 x5 x6)),x8)) (λj1=>
  if r2.1 then
  Option.bind (Rw p_s_L r2.2 3) (λr3=>
  Fm (fun(x9:List Int) (x10:Int) (x11:Int) (x12:Int) (x13:Int) (x14:Int) (x15:List Ek) (x16:Int)=>
  j1 x9 x10 x11 x12 x13 x14 x15 x16) (λj2=>
  Fm (fun(x17:List Int) (x18:Int) (x19:Int) (x20:Int) (x21:Int) (x22:Int) (x23:List Ek) (x24:Int)=>
  j2 x17 x18 x19 x20 x21 x22 x23 x24) (λj3=>
  if decide (r3.1=0) then
  Option.bind (Ti p_s_L r3.2) (λr4=>
  Chk (decide (r1.1.Races.length+r4.1.length<1073741824)) (
  j3 r1.1.Table.Points r1.1.Table.Relay r1.1.Table.Most r1.1.Final.Size r1.1.Final.Many r1.1.Final.Reserves (r1.1.Races++r4.1) r4.2))
  else
  Fm (fun(x25:List Int) (x26:Int) (x27:Int) (x28:Int) (x29:Int) (x30:Int) (x31:Int)=>
  j3 x25 x26 x27 x28 x29 x30 r1.1.Races x31) (λj4=>
  if decide (r3.1=1) then
  Option.bind (Zc p_s_L r3.2) (λr5=>
  j4 r5.1.Points r5.1.Relay r5.1.Most r1.1.Final.Size r1.1.Final.Many r1.1.Final.Reserves r5.2)
  else
  Option.bind (Nv p_s_L r3.2 1 10) (λr6=>
  Option.bind (Nv p_s_L r6.2 1 5) (λr7=>
  Option.bind (Nv p_s_L r7.2 0 10) (λr8=>
  j4 r1.1.Table.Points r1.1.Table.Relay r1.1.Table.Most r6.1 r7.1 r8.1 r8.2)))))))
  else
  j1 r1.1.Table.Points r1.1.Table.Relay r1.1.Table.Most r1.1.Final.Size r1.1.Final.Many r1.1.Final.Reserves r1.1.Races r2.2)))
def Wg(p_s_L:List Int)(p_s_at:Int):Option (Fq×Int):=
  Option.bind (Jk p_s_L p_s_at [0,1,1]) (λr1=>
  Option.bind (Jk p_s_L r1.2 [3,4,8]) (λr2=>
  Option.bind (Jk p_s_L r2.2 [1,2]) (λr3=>
  Option.bind (Jk p_s_L r3.2 [1,2,3]) (λr4=>
  Option.bind (Qd p_s_L r4.2 15) (λr5=>
  Fm (fun(x1:Int) (x2:Int) (x3:Int) (x4:Int) (x5:Int)=>
  some ((Fq.mk x1 x2 x3 x4),x5)) (λj1=>
  if r5.1 then
  Option.bind (Nv p_s_L r5.2 1 3) (λr6=>
  Option.bind (Nv p_s_L r6.2 1 10) (λr7=>
  Option.bind (Nv p_s_L r7.2 1 3) (λr8=>
  Option.bind (Nv p_s_L r8.2 1 10) (λr9=>
  j1 r6.1 r7.1 r8.1 r9.1 r9.2))))
  else
  j1 (HZ 1 r1.1) r2.1 r3.1 r4.1 r5.2))))))
def Mr(r1:Int×Int)(j1:(List An)->Option ((List An)×Int)):Nat->(List An)->Int->Option ((List An)×Int)
  |0,_,_=>none
  |m1+1,x1,x2=>if decide (x2<r1.1) then
  Chk (Ok x1.length) (
  Mr r1 j1 m1 (x1++[(An.mk Ry (W ((W (2*x2))+1)) 0 1 (Utf8.encode (IntKind.wrap .i32 (W (97+x2)))) Sl Oc 0 0 Ed 0),(An.mk Ry (W ((W (2*x2))+2)) 0 3 (Utf8.encode (IntKind.wrap .i32 (W (97+x2)))) Ed Oc 6000 0 Ed 0)]) (W (x2+1)))
  else
  j1 x1
def Xj(p_s_L:List Int)(p_s_at:Int):Option ((List An)×Int):=
  Option.bind (Pc p_s_L p_s_at 9 12) (λr1=>
  Fm (fun(x1:List An)=>
  some (x1,r1.2)) (λj1=>
  Mr r1 j1 ((r1.1-0).toNat+2) ([]:List An) 0))
def Lw(r1:Int×Int)(j1:(List An)->Option ((List An)×Int)):Nat->(List An)->Int->Option ((List An)×Int)
  |0,_,_=>none
  |m1+1,x1,x2=>if decide (x2<(W (300+r1.1))) then
  Chk (decide ((Utf8.encode (IntKind.wrap .i32 (W (97+(W (Int.tdiv x2 26)))))).size+(Utf8.encode (IntKind.wrap .i32 (W (97+(Int.tmod x2 26))))).size<1073741824)) (
  Chk (Ok x1.length) (
  Lw r1 j1 m1 (x1++[(An.mk Ry (W (x2+1)) 0 1 ((Utf8.encode (IntKind.wrap .i32 (W (97+(W (Int.tdiv x2 26))))))++(Utf8.encode (IntKind.wrap .i32 (W (97+(Int.tmod x2 26)))))) Ed Oc 0 0 Ed 0)]) (W (x2+1))))
  else
  j1 x1
def Wv(p_s_L:List Int)(p_s_at:Int):Option ((List An)×Int):=
  Option.bind (Pc p_s_L p_s_at 0 1) (λr1=>
  Fm (fun(x1:List An)=>
  some (x1,r1.2)) (λj1=>
  Lw r1 j1 (((W (300+r1.1))-0).toNat+2) ([]:List An) 0))
def Td(p_n:Int):Int:=
  if decide (p_n<0) then
  (-1)
  else
  if decide (0<p_n) then
  1
  else
  0
def Mx(s t:ByteArray):Int:=Lib.compareBytes s.data.toList t.data.toList
def Ln(p_a:An)(p_b:An):Int:=
  if !decide (p_a.At=p_b.At) then
  (Td (W (p_a.At-p_b.At)))
  else
  if !decide (p_a.Site=p_b.Site) then
  (Mx p_a.Site p_b.Site)
  else
  (Td (W (p_a.No-p_b.No)))
def Ex(p_a:Int)(j2:(List An)->Option (List An)):Nat->(List An)->Int->Option (List An)
  |0,_,_=>none
  |m2+1,x3,x4=>Fm (fun(x5:Bool)=>
  if x5 then
  Chk (inB (W (x4-1)) x3.length) (
  Chk (inB x4 x3.length) (
  Chk (inB x4 x3.length) (
  Chk (inB (W (x4-1)) (x3.set x4.toNat (nth x3 (W (x4-1)))).length) (
  Ex p_a j2 m2 ((x3.set x4.toNat (nth x3 (W (x4-1)))).set ((W (x4-1)).toNat) (nth x3 x4)) (W (x4-1))))))
  else
  j2 x3) (λj3=>
  if decide (p_a<x4) then
  Chk (inB x4 x3.length) (
  Chk (inB (W (x4-1)) x3.length) (
  j3 (decide ((Ln (nth x3 x4) (nth x3 (W (x4-1))))<0))))
  else
  j3 false)
def Fl(p_b:Int)(p_a:Int)(j1:(List An)->Option (List An)):Nat->(List An)->Int->Option (List An)
  |0,_,_=>none
  |m1+1,x1,x2=>if decide (x2<p_b) then
  Fm (fun(x3:List An)=>
  Fl p_b p_a j1 m1 x3 (W (x2+1))) (λj2=>
  Ex p_a j2 ((x2-p_a).toNat+2) x1 x2)
  else
  j1 x1
def Hs(p_data:List An)(p_a:Int)(p_b:Int):Option (List An):=
  Fm (fun(x1:List An)=>
  some x1) (λj1=>
  Fl p_b p_a j1 ((p_b-(W (p_a+1))).toNat+2) p_data (W (p_a+1)))
def Gf(p_n:Int)(j1:(List An)->Int->Option (List An)):Nat->(List An)->Int->Int->Option (List An)
  |0,_,_,_=>none
  |m1+1,x1,x2,x3=>if decide (x3<=p_n) then
  Option.bind (Hs x1 x2 x3) (λr1=>
  Gf p_n j1 m1 r1 x3 (W (x3+20)))
  else
  j1 x1 x2
def Hj(p_n:Int)(j3:Int->Option (List An)):Nat->Int->Int->Option (List An)
  |0,_,_=>none
  |_+1,x5,x6=>if decide (x6<=p_n) then
  none
  else
  j3 x5
def Gg(p_n:Int)(j2:Option (List An)):Nat->Int->Option (List An)
  |0,_=>none
  |m2+1,x4=>if decide (x4<p_n) then
  Fm (fun(x5:Int)=>
  if decide ((W (x5+x4))<p_n) then
  none
  else
  Gg p_n j2 m2 (W (x4*2))) (λj3=>
  Hj p_n j3 ((p_n-(W (2*x4))).toNat+2) 0 (W (2*x4)))
  else
  j2
def Le(p_data:List An)(p_n:Int):Option (List An):=
  Fm (fun(x1:List An) (x2:Int)=>
  Option.bind (Hs x1 x2 p_n) (λr2=>
  Fm (some r2) (λj2=>
  Gg p_n j2 ((p_n-20).toNat+2) 20))) (λj1=>
  Gf p_n j1 ((p_n-20).toNat+2) p_data 0 20)
def Iv(p_x:List An):Option (List An):=
  Option.bind (Le p_x (p_x.length:Int)) (λr1=>
  some r1)
def Pt(p_many:Int)(p_s_L:List Int)(j1:(List (ByteArray×Int))->(List An)->Int->Option ((List An)×Int)):Nat->(List (ByteArray×Int))->(List An)->Int->Int->Int->Option ((List An)×Int)
  |0,_,_,_,_,_=>none
  |m1+1,x1,x2,x3,x4,x5=>if decide (x5<p_many) then
  Option.bind (Jk p_s_L x3 [0,1,5]) (λr1=>
  Option.bind (Pk p_s_L r1.2 [Ry,Ry,JT]) (λr2=>
  Option.bind (Jk p_s_L r2.2 [1,1,1,3,3,3,2,4]) (λr3=>
  Fm (fun(x6:ByteArray) (x7:ByteArray) (x8:Int)=>
  Fm (fun(x9:ByteArray) (x10:Int) (x11:Int) (x12:ByteArray) (x13:Int) (x14:Int)=>
  Option.bind (Qd p_s_L x14 100) (λr12=>
  Fm (fun(x29:ByteArray) (x30:Int) (x31:Int) (x32:ByteArray) (x33:ByteArray) (x34:ByteArray) (x35:Int) (x36:Int) (x37:Int) (x38:Int)=>
  Chk (Ok x2.length) (
  Pt p_many p_s_L j1 m1 (Jd x1 r2.1 (W ((Fi x1 r2.1 0)+1))) (x2++[(An.mk x29 x30 (W (x4+r1.1)) x31 x32 x33 x34 x35 x36 x12 x37)]) x38 (W (x4+r1.1)) (W (x5+1)))) (λj7=>
  if r12.1 then
  Option.bind (Rw p_s_L r12.2 4) (λr13=>
  Fm (fun(x39:ByteArray) (x40:Int) (x41:Int) (x42:ByteArray) (x43:ByteArray) (x44:ByteArray) (x45:Int) (x46:Int) (x47:Int) (x48:Int)=>
  j7 x39 x40 x41 x42 x43 x44 x45 x46 x47 x48) (λj8=>
  Fm (fun(x49:ByteArray) (x50:Int) (x51:Int) (x52:ByteArray) (x53:ByteArray) (x54:ByteArray) (x55:Int) (x56:Int) (x57:Int) (x58:Int)=>
  j8 x49 x50 x51 x52 x53 x54 x55 x56 x57 x58) (λj9=>
  if decide (r13.1=0) then
  Option.bind (Pk p_s_L r13.2 [Ed,Ry]) (λr14=>
  Option.bind (Nv p_s_L r14.2 1 9) (λr15=>
  j9 r14.1 r15.1 r3.1 x6 x9 x7 x10 x11 x13 r15.2))
  else
  Fm (fun(x59:Int) (x60:ByteArray) (x61:ByteArray) (x62:ByteArray) (x63:Int) (x64:Int) (x65:Int) (x66:Int)=>
  j9 r2.1 (Fi (Jd x1 r2.1 (W ((Fi x1 r2.1 0)+1))) r2.1 0) x59 x60 x61 x62 x63 x64 x65 x66) (λj10=>
  if decide (r13.1=1) then
  Option.bind (Nv p_s_L r13.2 1 4) (λr16=>
  j10 r16.1 x6 x9 x7 x10 x11 x13 r16.2)
  else
  Fm (fun(x67:ByteArray) (x68:ByteArray) (x69:ByteArray) (x70:Int) (x71:Int) (x72:Int) (x73:Int)=>
  j10 r3.1 x67 x68 x69 x70 x71 x72 x73) (λj11=>
  if decide (r13.1=2) then
  Option.bind (Pk p_s_L r13.2 [Ed,CP]) (λr17=>
  Option.bind (Pk p_s_L r17.2 [k_A,Sl]) (λr18=>
  Option.bind (Pk p_s_L r18.2 [Ed,Oc]) (λr19=>
  j11 r17.1 r18.1 r19.1 x10 x11 x13 r19.2)))
  else
  Option.bind (Nv p_s_L r13.2 0 360000) (λr20=>
  Option.bind (Nv p_s_L r20.2 0 8) (λr21=>
  Option.bind (Nv p_s_L r21.2 0 5) (λr22=>
  j11 x6 x9 x7 r20.1 r21.1 r22.1 r22.2))))))))
  else
  j7 r2.1 (Fi (Jd x1 r2.1 (W ((Fi x1 r2.1 0)+1))) r2.1 0) r3.1 x6 x9 x7 x10 x11 x13 r12.2))) (λj3=>
  Fm (fun(x15:ByteArray) (x16:Int) (x17:Int) (x18:ByteArray) (x19:Int) (x20:Int)=>
  j3 x15 x16 x17 x18 x19 x20) (λj4=>
  if decide (r3.1=1) then
  Option.bind (Pk p_s_L x8 [Sl,DV,Ed]) (λr6=>
  Option.bind (Jk p_s_L r6.2 [0,5900,6000,7000]) (λr7=>
  j4 r6.1 r7.1 0 Ed 0 r7.2))
  else
  Fm (fun(x21:Int) (x22:Int) (x23:ByteArray) (x24:Int) (x25:Int)=>
  j4 Ed x21 x22 x23 x24 x25) (λj5=>
  if decide (r3.1=3) then
  Option.bind (Jk p_s_L x8 [0,5900,5900,6000,6100]) (λr8=>
  Option.bind (Jk p_s_L r8.2 [0,0,0,0,3]) (λr9=>
  j5 r8.1 r9.1 Ed 0 r9.2))
  else
  Fm (fun(x26:ByteArray) (x27:Int) (x28:Int)=>
  j5 0 0 x26 x27 x28) (λj6=>
  if decide (r3.1=4) then
  Option.bind (Pk p_s_L x8 [Ry,Ry,JT]) (λr10=>
  Option.bind (Pc p_s_L r10.2 1 (HZ 1 (Fi (Jd x1 r2.1 (W ((Fi x1 r2.1 0)+1))) Ry 0))) (λr11=>
  j6 r10.1 r11.1 r11.2))
  else
  j6 Ed 0 x8))))) (λj2=>
  if !decide (r3.1=4) then
  Option.bind (Pk p_s_L r3.2 [CP,MC,ME,MG]) (λr4=>
  Option.bind (Pk p_s_L r4.2 [Oc,Oc,Wz,UI]) (λr5=>
  j2 r4.1 r5.1 r5.2))
  else
  j2 Ed Ed r3.2))))
  else
  j1 x1 x2 x3
def Zd(p_s_L:List Int)(p_s_at:Int)(p_many:Int):Option ((List An)×Int):=
  Fm (fun(x1:List (ByteArray×Int)) (x2:List An) (x3:Int)=>
  Option.bind (Iv x2) (λr23=>
  some (r23,x3))) (λj1=>
  Pt p_many p_s_L j1 ((p_many-0).toNat+2) ([]:List (ByteArray×Int)) ([]:List An) p_s_at 0 0)
def Tj(p_s_L:List Int)(p_s_at:Int)(p_many:Int):Option ((List An)×Int):=
  Option.bind (Qd p_s_L p_s_at 15) (λr1=>
  if r1.1 then
  Option.bind (Xj p_s_L r1.2) (λr2=>
  some (r2.1,r2.2))
  else
  Option.bind (Qd p_s_L r1.2 60) (λr3=>
  if r3.1 then
  Option.bind (Wv p_s_L r3.2) (λr4=>
  some (r4.1,r4.2))
  else
  Option.bind (Pc p_s_L r3.2 0 p_many) (λr5=>
  Option.bind (Zd p_s_L r5.2 r5.1) (λr6=>
  some (r6.1,r6.2)))))
def Wh(p_s_L:List Int)(p_s_at:Int):Option (Int×Int):=
  Option.bind (Jk p_s_L p_s_at [0,3,10,20,40,60,60,(-1)]) (λr1=>
  some (r1.1,r1.2))
def Uc(s c:ByteArray):Option ByteArray:=
  Chk (decide (s.size<=9223372036854775807)) (Chk (decide (c.size<4294967281)) (Chk (c.data.toList.all λb=>decide (b.toNat<128)) (some ⟨(Lib.trimS s.data.toList c.data.toList).toArray⟩)))
def Hy(p_s:ByteArray):Option Bool:=
  Fm (fun(c1:Bool)=>
  Fm (fun(c2:Bool)=>
  Fm (fun(c3:Bool)=>
  some c3) (λj3=>
  if c2 then Option.bind (Uc p_s Hu) (λr1=>
  j3 (c2 && (decide (r1=Ed)))) else j3 (c2 && true))) (λj2=>
  if c1 then Chk (inB 0 p_s.size) (
  j2 (c1 && (decide ((BZ p_s 0)<=122)))) else j2 (c1 && true))) (λj1=>
  if((decide (1<=(p_s.size:Int))) && (decide ((p_s.size:Int)<=40))) then Chk (inB 0 p_s.size) (
  j1 (((decide (1<=(p_s.size:Int))) && (decide ((p_s.size:Int)<=40))) && (decide (97<=(BZ p_s 0))))) else j1 (((decide (1<=(p_s.size:Int))) && (decide ((p_s.size:Int)<=40))) && true))
def Ei(p_n:Int)(p_low:Int)(p_high:Int):Bool:=
  ((decide (p_low<=p_n)) && (decide (p_n<=p_high)))
def My(p_r:Ek):Option Int:=
  Option.bind (Hy p_r.Key) (λr1=>
  if !r1 then
  some 5
  else
  if((!(Ei p_r.Stroke 1 5))||(!(Ei p_r.Sex 0 2))) then
  some 4
  else
  if(((((((!decide (p_r.Course=25)) && (!decide (p_r.Course=50)))||(!(Ei p_r.Legs 1 4)))||(!(Ei p_r.Metres 25 1500)))||(decide (p_r.Young<0)))||(decide (p_r.Old<p_r.Young)))||(decide (120<p_r.Old))) then
  some 1
  else
  Chk (!decide (p_r.Course=0)) (
  if !decide ((Int.tmod p_r.Metres p_r.Course)=0) then
  some 3
  else
  Fm (fun(c1:Bool)=>
  Fm (fun(x1:Bool)=>
  if x1 then
  some 16
  else
  some 0) (λj2=>
  if c1 then
  j2 c1
  else
  j2 (((decide (p_r.Stroke=5)) && (decide (1<p_r.Legs))) && (!decide (p_r.Legs=4))))) (λj1=>
  if((decide (p_r.Stroke=5)) && (decide (p_r.Legs=1))) then Chk (!decide ((W (4*p_r.Course))=0)) (
  j1 (((decide (p_r.Stroke=5)) && (decide (p_r.Legs=1))) && (!decide ((Int.tmod p_r.Metres (W (4*p_r.Course)))=0)))) else j1 (((decide (p_r.Stroke=5)) && (decide (p_r.Legs=1))) && true))))
def Ww(p_x:Ek)(p_a1:Ek):Bool:=
  decide (p_x.Key=p_a1.Key)
def Gi(p_f_0:Ek)(j1:Int):List Ek->Nat->Int
  |[],_=>j1
  |y1::ys1,i1=>if(Ww y1 p_f_0) then
  (i1:Int)
  else
  Gi p_f_0 j1 ys1 (i1+1)
def Mt(p_s:List Ek)(p_f_0:Ek):Int:=
  Fm ((-1)) (λj1=>
  Gi p_f_0 j1 p_s 0)
def Kd(p_s:List Ek)(p_f_0:Ek):Bool:=
  decide (0<=(Mt p_s p_f_0))
def Lx(p_t:Qy)(j1:Option Int):List Int->Nat->Option Int
  |[],_=>j1
  |y1::ys1,i1=>if !(Ei y1 0 10000) then
  some 1
  else
  Fm (fun(c1:Bool)=>
  if c1 then
  some 7
  else
  Lx p_t j1 ys1 (i1+1)) (λj2=>
  if(decide (0<(i1:Int))) then Chk (inB (W ((i1:Int)-1)) p_t.Points.length) (
  j2 ((decide (0<(i1:Int))) && (decide ((nth p_t.Points (W ((i1:Int)-1)))<y1)))) else j2 ((decide (0<(i1:Int))) && true))
def Sq(p_t:Qy):Option Int:=
  if decide (40<(p_t.Points.length:Int)) then
  some 2
  else
  Fm (if((!(Ei p_t.Relay 1 10))||(!(Ei p_t.Most 0 10))) then
  some 1
  else
  some 0) (λj1=>
  Lx p_t j1 p_t.Points 0)
def Qk(p_f:Hn):Int:=
  if(((!(Ei p_f.Size 1 10))||(!(Ei p_f.Many 1 5)))||(!(Ei p_f.Reserves 0 10))) then
  1
  else
  0
def Nz(p_p:Lc)(j1:Option Int):List Ek->Nat->Option Int
  |[],_=>j1
  |y1::ys1,i1=>Option.bind (My y1) (λr1=>
  if !decide (r1=0) then
  some r1
  else
  Chk (Yt 0 (i1:Int) p_p.Races.length) (
  if(Kd (cut p_p.Races 0 (i1:Int)) y1) then
  some 6
  else
  Nz p_p j1 ys1 (i1+1)))
def Sm(p_p:Lc):Option Int:=
  if decide (100<(p_p.Races.length:Int)) then
  some 2
  else
  Fm (Option.bind (Sq p_p.Table) (λr2=>
  if !decide (r2=0) then
  some r2
  else
  some (Qk p_p.Final))) (λj1=>
  Nz p_p j1 p_p.Races 0)
def Kn(p_n:Int):Bool:=
  ((decide (0<=p_n)) && (decide (p_n<345686400000)))
def Tk(p_x:An):Option Int:=
  Option.bind (Hy p_x.Site) (λr1=>
  if !r1 then
  some 5
  else
  if((!(Ei p_x.No 1 1000000))||(!(Kn p_x.At))) then
  some 1
  else
  if !(Ei p_x.Kind 1 4) then
  some 4
  else
  Fm (fun(c1:Bool)=>
  Fm (fun(x1:Bool)=>
  if x1 then
  some 5
  else
  Fm (fun(x2:Bool)=>
  if x2 then
  some 1
  else
  Fm (fun(c4:Bool)=>
  if c4 then
  some 5
  else
  if((decide (p_x.Kind=4)) && (!(Ei p_x.Other 1 1000000))) then
  some 1
  else
  Fm (fun(x3:ByteArray) (x4:ByteArray) (x5:ByteArray) (x6:Int) (x7:Int) (x8:ByteArray) (x9:Int)=>
  if !decide (p_x=(An.mk p_x.Site p_x.No p_x.At p_x.Kind x3 x4 x5 x6 x7 x8 x9)) then
  some 3
  else
  some 0) (λj7=>
  Fm (fun(x10:ByteArray) (x11:ByteArray) (x12:ByteArray) (x13:Int) (x14:Int) (x15:ByteArray) (x16:Int)=>
  j7 x10 x11 x12 x13 x14 x15 x16) (λj8=>
  if decide (p_x.Kind=1) then
  j8 p_x.Who p_x.Club p_x.Race p_x.Time 0 Ed 0
  else
  Fm (fun(x17:ByteArray) (x18:ByteArray) (x19:Int) (x20:Int) (x21:ByteArray) (x22:Int)=>
  j8 x17 Ed x18 x19 x20 x21 x22) (λj9=>
  if decide (p_x.Kind=3) then
  j9 p_x.Who p_x.Race p_x.Time p_x.Fault Ed 0
  else
  Fm (fun(x23:ByteArray) (x24:ByteArray) (x25:ByteArray) (x26:Int)=>
  j9 x23 x24 0 0 x25 x26) (λj10=>
  if decide (p_x.Kind=4) then
  j10 Ed Ed p_x.Of p_x.Other
  else
  j10 p_x.Who p_x.Race Ed 0))))) (λj6=>
  if(decide (p_x.Kind=4)) then Option.bind (Hy p_x.Of) (λr5=>
  j6 ((decide (p_x.Kind=4)) && (!r5))) else j6 ((decide (p_x.Kind=4)) && true))) (λj5=>
  if(((decide (p_x.Kind=1))||(decide (p_x.Kind=3))) && (!(Ei p_x.Time 0 360000))) then
  j5 (((decide (p_x.Kind=1))||(decide (p_x.Kind=3))) && (!(Ei p_x.Time 0 360000)))
  else
  j5 ((decide (p_x.Kind=3)) && (!(Ei p_x.Fault 0 8))))) (λj3=>
  if c1 then
  j3 c1
  else
  Fm (fun(c3:Bool)=>
  j3 c3) (λj4=>
  if((decide (p_x.Kind=1)) && (!decide (p_x.Club=Ed))) then Option.bind (Hy p_x.Club) (λr4=>
  j4 (((decide (p_x.Kind=1)) && (!decide (p_x.Club=Ed))) && (!r4))) else j4 (((decide (p_x.Kind=1)) && (!decide (p_x.Club=Ed))) && true)))) (λj1=>
  if(!(decide (p_x.Kind=4))) then Option.bind (Hy p_x.Who) (λr2=>
  Fm (fun(c2:Bool)=>
  j1 ((!(decide (p_x.Kind=4))) && c2)) (λj2=>
  if(!r2) then j2 ((!r2)||true) else Option.bind (Hy p_x.Race) (λr3=>
  j2 ((!r2)||(!r3))))) else j1 ((!(decide (p_x.Kind=4))) && true)))
def Te(p_x:Int):Bool:=
  !decide (p_x=p_x)
def Ho(p_x:Int)(p_y:Int):Int:=
  if(Te p_x) then
  if(Te p_y) then
  0
  else
  (-1)
  else
  if(Te p_y) then
  1
  else
  if decide (p_x<p_y) then
  (-1)
  else
  if decide (p_y<p_x) then
  1
  else
  0
def Ou(j1:Int):List Int->Nat->Int
  |[],_=>j1
  |y1::ys1,i1=>if !decide (y1=0) then
  y1
  else
  Ou j1 ys1 (i1+1)
def Tl(p_vals:List Int):Int:=
  Fm (0) (λj1=>
  Ou j1 p_vals 0)
def Pv(p_a:An)(p_b:An):Int:=
  (Tl [(Ho p_a.At p_b.At),(Mx p_a.Site p_b.Site),(Ho p_a.No p_b.No)])
def Fa(p_x:An):Fh:=
  (Fh.mk p_x.Site p_x.No)
def Ji(p_l:List An)(j1:(List (Fh×Bool))->Bool->Option Int):List An->Nat->(List (Fh×Bool))->Bool->Option Int
  |[],_,x1,x2=>j1 x1 x2
  |y1::ys1,i1,x1,x2=>Option.bind (Tk y1) (λr1=>
  if !decide (r1=0) then
  some r1
  else
  Fm (fun(x3:Bool)=>
  if x3 then
  some 7
  else
  Ji p_l j1 ys1 (i1+1) (Jd x1 (Fa y1) true) (x2||(Fi x1 (Fa y1) false))) (λj2=>
  if decide (0<(i1:Int)) then
  Chk (inB (W ((i1:Int)-1)) p_l.length) (
  j2 (decide (0<=(Pv (nth p_l (W ((i1:Int)-1))) y1))))
  else
  j2 false))
def Rx(p_l:List An):Option Int:=
  if decide (2000<(p_l.length:Int)) then
  some 2
  else
  Fm (fun(x1:List (Fh×Bool)) (x2:Bool)=>
  if x2 then
  some 6
  else
  some 0) (λj1=>
  Ji p_l j1 p_l 0 ([]:List (Fh×Bool)) false)
def Lj(j1:(List Int)->Option (List Int)):Nat->(List Int)->Int->Int->Option (List Int)
  |0,_,_,_=>none
  |m1+1,x1,x2,x3=>if decide (x2<x3) then
  Chk (inB x3 x1.length) (
  Chk (inB x2 x1.length) (
  Chk (inB x2 x1.length) (
  Chk (inB x3 (x1.set x2.toNat (nth x1 x3)).length) (
  Lj j1 m1 ((x1.set x2.toNat (nth x1 x3)).set x3.toNat (nth x1 x2)) (W (x2+1)) (W (x3-1))))))
  else
  j1 x1
def Pl(p_s:List Int):Option (List Int):=
  Fm (fun(x1:List Int)=>
  some x1) (λj1=>
  Lj j1 (((W ((p_s.length:Int)-1))-0).toNat+2) p_s 0 (W ((p_s.length:Int)-1)))
  def Zv (l:List An) (at_:Int) (i:Nat) (m:List (Fh×Bool)):Bool:=decide (at_<(nth l (i:Int)).At)||Fi m (Fa (nth l (i:Int))) false
def Mz(l:List An)(at_:Int):List Nat->List (Fh×Bool)->List Int->Option (List Int)
  |[],_,x=>Pl x
  |i::is,m,x=>if Zv l at_ i m then Mz l at_ is m x else
    Chk (Ok x.length) (Mz l at_ is (if decide ((nth l (i:Int)).Kind=4) then Jd m (Fh.mk ((nth l (i:Int)).Of) ((nth l (i:Int)).Other)) true else m) (x++[(i:Int)]))
def Xv(l:List An)(at_:Int):Option (List Int):=Mz l at_ (Wq l.length) [] []
def Ol(p_l:List An)(j1:(List An)->Option (Option Mp)):List Int->Nat->(List An)->Option (Option Mp)
  |[],_,x1=>j1 x1
  |y1::ys1,i1,x1=>Chk (inB y1 p_l.length) (
  Chk (Ok x1.length) (
  Ol p_l j1 ys1 (i1+1) (x1++[(nth p_l y1)])))
def Ze(p_p:Lc)(p_l:List An)(p_at:Int):Option (Option Mp):=
  Option.bind (Xv p_l p_at) (λr1=>
  Fm (fun(x1:List An)=>
  some (some (Mp.mk p_p x1))) (λj1=>
  Ol p_l j1 r1 0 ([]:List An)))
def Ql(j1:Option ((Option Mp)×Int)):List Int->Nat->Option ((Option Mp)×Int)
  |[],_=>j1
  |y1::ys1,i1=>if !(Kn y1) then
  some (none,1)
  else
  Ql j1 ys1 (i1+1)
def Zw(p_p:Lc)(p_l:List An)(p_at:List Int):Option ((Option Mp)×Int):=
  Option.bind (Sm p_p) (λr1=>
  if !decide (r1=0) then
  some (none,r1)
  else
  Option.bind (Rx p_l) (λr2=>
  if !decide (r2=0) then
  some (none,r2)
  else
  Fm (Chk (inB (W ((p_at.length:Int)-1)) p_at.length) (
  Option.bind (Ze p_p p_l (nth p_at (W ((p_at.length:Int)-1)))) (λr3=>
  some (r3,0)))) (λj1=>
  Ql j1 p_at 0)))
def Xw(p_r:Ek)(p_a1:ByteArray):Bool:=
  decide (p_r.Key=p_a1)
def Gb(p_f_0:ByteArray)(j1:Int):List Ek->Nat->Int
  |[],_=>j1
  |y1::ys1,i1=>if(Xw y1 p_f_0) then
  (i1:Int)
  else
  Gb p_f_0 j1 ys1 (i1+1)
def Gc(p_s:List Ek)(p_f_0:ByteArray):Int:=
  Fm ((-1)) (λj1=>
  Gb p_f_0 j1 p_s 0)
def Ve(p_a:An)(p_b:An):Int:=
  (Mx p_a.Who p_b.Who)
open Classical in
def Lf(p_x:List An):Option (List An):=if BH Ve p_x/\p_x.length<4611686018427387904 then some (Pa Ve p_x) else none
def Nw(p_race:ByteArray)(j1:(List (ByteArray×An))->Option (List An)):List An->Nat->(List (ByteArray×An))->Option (List An)
  |[],_,x1=>j1 x1
  |y1::ys1,i1,x1=>Fm (fun(x2:List (ByteArray×An))=>
  Nw p_race j1 ys1 (i1+1) x2) (λj2=>
  if !decide (y1.Race=p_race) then
  j2 x1
  else
  Fm (fun(x3:List (ByteArray×An))=>
  j2 x3) (λj3=>
  Fm (fun(x4:List (ByteArray×An))=>
  j3 x4) (λj4=>
  if decide (y1.Kind=1) then
  j4 (Jd x1 y1.Who y1)
  else
  Fm (fun(x5:List (ByteArray×An))=>
  j4 x5) (λj5=>
  if decide (y1.Kind=2) then
  j5 (CI x1 y1.Who)
  else
  j5 x1))))
def Ov(j6:(List An)->Option (List An)):List (ByteArray×An)->(List An)->Option (List An)
  |[],x6=>j6 x6
  |y2::ys2,x6=>Option.bind (α:=(List An)) (
  Chk (Ok x6.length) (
  some (x6++[y2.2]))) (λs=>Ov j6 ys2 s)
def Ur(p_s_p:Lc)(p_s_deeds:List An)(p_race:ByteArray):Option (List An):=
  Fm (fun(x1:List (ByteArray×An))=>
  Fm (fun(x6:List An)=>
  Option.bind (Lf x6) (λr1=>
  some r1)) (λj6=>
  YZ x1 (λp=>Ov j6 p ([]:List An)))) (λj1=>
  Nw p_race j1 p_s_deeds 0 ([]:List (ByteArray×An)))
def Yh(p_s_p:Lc)(p_s_deeds:List An)(p_key:ByteArray):Option (Ek×Int):=
  if decide ((Gc p_s_p.Races p_key)<0) then
  some ((Ek.mk Ed 0 0 0 0 0 0 0),8)
  else
  Option.bind (Ur p_s_p p_s_deeds p_key) (λr1=>
  if decide (300<(r1.length:Int)) then
  some ((Ek.mk Ed 0 0 0 0 0 0 0),2)
  else
  Chk (inB (Gc p_s_p.Races p_key) p_s_p.Races.length) (
  some ((nth p_s_p.Races (Gc p_s_p.Races p_key)),0)))
def Vg(p_p:Lc)(p_l:List An)(p_race:ByteArray)(p_at:Int):Option ((Option Mp)×Ek×Int):=
  Option.bind (Zw p_p p_l ([p_at]:List Int)) (λr1=>
  if !decide (r1.2=0) then
  some (none,(Ek.mk Ed 0 0 0 0 0 0 0),r1.2)
  else
  Option.bind (r1.1) (λr2=>
  Option.bind (Yh r2.p_ r2.deeds_ p_race) (λr3=>
  some (some r2,r3.1,r3.2))))
def Pm(j1:(List Ee)->Option (List Ee)):List An->Nat->(List Ee)->Option (List Ee)
  |[],_,x1=>j1 x1
  |y1::ys1,i1,x1=>Chk (Ok x1.length) (
  Pm j1 ys1 (i1+1) (x1++[(Ee.mk y1.Who y1.Time)]))
def Vz(p_s_p:Lc)(p_s_deeds:List An)(p_race:ByteArray):Option (List Ee):=
  Option.bind (Ur p_s_p p_s_deeds p_race) (λr1=>
  Fm (fun(x1:List Ee)=>
  some x1) (λj1=>
  Pm j1 r1 0 ([]:List Ee)))
def Ud(p_p:Lc)(p_l:List An)(p_race:ByteArray)(p_at:Int):Option ((List Ee)×Int):=
  Option.bind (Vg p_p p_l p_race p_at) (λr1=>
  if !decide (r1.2.2=0) then
  some (([]:List Ee),r1.2.2)
  else
  Option.bind (r1.1) (λr2=>
  Option.bind (Vz r2.p_ r2.deeds_ p_race) (λr3=>
  some (r3,0))))
def Pn(p_p:Fq):Int:=
  if((((decide (10<p_p.High))||(!(Ei p_p.Low 1 p_p.High)))||(!(Ei p_p.Least 1 (W ((W (p_p.High-p_p.Low))+1)))))||(!(Ei p_p.Circles 1 10))) then
  1
  else
  0
def Nj(j1:(List (ByteArray×Bool))->Bool->Option Int):List Ee->Nat->(List (ByteArray×Bool))->Bool->Option Int
  |[],_,x1,x2=>j1 x1 x2
  |y1::ys1,i1,x1,x2=>Option.bind (Hy y1.Who) (λr1=>
  if !r1 then
  some 5
  else
  if !(Ei y1.Time 0 360000) then
  some 1
  else
  Nj j1 ys1 (i1+1) (Jd x1 y1.Who true) (x2||(Fi x1 y1.Who false)))
def Su(p_l:List Ee):Option Int:=
  if decide (300<(p_l.length:Int)) then
  some 2
  else
  Fm (fun(x1:List (ByteArray×Bool)) (x2:Bool)=>
  if x2 then
  some 6
  else
  some 0) (λj1=>
  Nj j1 p_l 0 ([]:List (ByteArray×Bool)) false)
def Zf(p_p:Fq)(p_l:List Ee):Option Int:=
  if !decide ((Pn p_p)=0) then
  some (Pn p_p)
  else
  Option.bind (Su p_l) (λr1=>
  some r1)
def Pu(p_many:Int)(p_p:Fq)(j1:(List Int)->Option ((List Int)×Int)):Nat->(List Int)->Int->Option ((List Int)×Int)
  |0,_,_=>none
  |m1+1,x1,x2=>if decide (x2<(W (Int.tdiv (W ((W (p_many+(W ((W (p_p.High-p_p.Low))+1))))-1)) (W ((W (p_p.High-p_p.Low))+1))))) then
  Fm (fun(x3:List Int)=>
  Pu p_many p_p j1 m1 x3 (W (x2+1))) (λj2=>
  Fm (fun(x4:List Int)=>
  j2 x4) (λj3=>
  if decide (x2=0) then
  Chk (Ok x1.length) (
  j3 (x1++[W (p_many-(W ((W ((W (p_p.High-p_p.Low))+1))*(W ((W (Int.tdiv (W ((W (p_many+(W ((W (p_p.High-p_p.Low))+1))))-1)) (W ((W (p_p.High-p_p.Low))+1))))-1)))))]))
  else
  Chk (Ok x1.length) (
  j3 (x1++[W ((W (p_p.High-p_p.Low))+1)]))))
  else
  j1 x1
def BL(p_p:Fq)(p_many:Int):Option ((List Int)×Int):=
  Chk (!decide ((W ((W (p_p.High-p_p.Low))+1))=0)) (
  if decide (60<(W (Int.tdiv (W ((W (p_many+(W ((W (p_p.High-p_p.Low))+1))))-1)) (W ((W (p_p.High-p_p.Low))+1))))) then
  some (([]:List Int),2)
  else
  Fm (fun(x1:List Int)=>
  Fm (fun(c1:Bool)=>
  Fm (fun(x5:List Int)=>
  some (x5,0)) (λj5=>
  if c1 then
  Chk (inB 0 x1.length) (
  Chk (inB 1 x1.length) (
  Chk (inB 0 x1.length) (
  Chk (inB 0 x1.length) (
  Chk (inB 1 (x1.set ((0:Int).toNat) (W ((nth x1 0)+(Rs (W (p_p.Least-(nth x1 0))) (W ((nth x1 1)-p_p.Least)))))).length) (
  Chk (inB 1 (x1.set ((0:Int).toNat) (W ((nth x1 0)+(Rs (W (p_p.Least-(nth x1 0))) (W ((nth x1 1)-p_p.Least)))))).length) (
  j5 ((x1.set ((0:Int).toNat) (W ((nth x1 0)+(Rs (W (p_p.Least-(nth x1 0))) (W ((nth x1 1)-p_p.Least)))))).set ((1:Int).toNat) (W ((nth (x1.set ((0:Int).toNat) (W ((nth x1 0)+(Rs (W (p_p.Least-(nth x1 0))) (W ((nth x1 1)-p_p.Least)))))) 1)-(Rs (W (p_p.Least-(nth x1 0))) (W ((nth x1 1)-p_p.Least))))))))))))
  else
  j5 x1)) (λj4=>
  if(decide (1<(W (Int.tdiv (W ((W (p_many+(W ((W (p_p.High-p_p.Low))+1))))-1)) (W ((W (p_p.High-p_p.Low))+1)))))) then Chk (inB 0 x1.length) (
  j4 ((decide (1<(W (Int.tdiv (W ((W (p_many+(W ((W (p_p.High-p_p.Low))+1))))-1)) (W ((W (p_p.High-p_p.Low))+1)))))) && (decide ((nth x1 0)<p_p.Least)))) else j4 ((decide (1<(W (Int.tdiv (W ((W (p_many+(W ((W (p_p.High-p_p.Low))+1))))-1)) (W ((W (p_p.High-p_p.Low))+1)))))) && true))) (λj1=>
  Pu p_many p_p j1 (((W (Int.tdiv (W ((W (p_many+(W ((W (p_p.High-p_p.Low))+1))))-1)) (W ((W (p_p.High-p_p.Low))+1))))-0).toNat+2) ([]:List Int) 0))
def Rh(p_s:List Ee):Option (List Ee):=
  Chk (decide ((([]:List Ee):List Ee).length+p_s.length<1073741824)) (
  some ((([]:List Ee):List Ee)++p_s))
def Sr(p_a:Int)(p_b:Int):Int:=
  if !decide ((decide (p_a=0))=(decide (p_b=0))) then
  if decide (p_a=0) then
  1
  else
  (-1)
  else
  (Ho p_a p_b)
def Me(p_a:Ee)(p_b:Ee):Int:=
  (Sr p_a.Time p_b.Time)
def Ge(pc:Ee->Ee->Int)(p_a:Int)(j2:(List Ee)->Option (List Ee)):Nat->(List Ee)->Int->Option (List Ee)
  |0,_,_=>none
  |m2+1,x3,x4=>Fm (fun(x5:Bool)=>
  if x5 then
  Chk (inB (W (x4-1)) x3.length) (
  Chk (inB x4 x3.length) (
  Chk (inB x4 x3.length) (
  Chk (inB (W (x4-1)) (x3.set x4.toNat (nth x3 (W (x4-1)))).length) (
  Ge pc p_a j2 m2 ((x3.set x4.toNat (nth x3 (W (x4-1)))).set ((W (x4-1)).toNat) (nth x3 x4)) (W (x4-1))))))
  else
  j2 x3) (λj3=>
  if decide (p_a<x4) then
  Chk (inB x4 x3.length) (
  Chk (inB (W (x4-1)) x3.length) (
  j3 (decide ((pc (nth x3 x4) (nth x3 (W (x4-1))))<0))))
  else
  j3 false)
def Gp(pc:Ee->Ee->Int)(p_b:Int)(p_a:Int)(j1:(List Ee)->Option (List Ee)):Nat->(List Ee)->Int->Option (List Ee)
  |0,_,_=>none
  |m1+1,x1,x2=>if decide (x2<p_b) then
  Fm (fun(x3:List Ee)=>
  Gp pc p_b p_a j1 m1 x3 (W (x2+1))) (λj2=>
  Ge pc p_a j2 ((x2-p_a).toNat+2) x1 x2)
  else
  j1 x1
def Ii(pc:Ee->Ee->Int)(p_data:List Ee)(p_a:Int)(p_b:Int):Option (List Ee):=
  Fm (fun(x1:List Ee)=>
  some x1) (λj1=>
  Gp pc p_b p_a j1 ((p_b-(W (p_a+1))).toNat+2) p_data (W (p_a+1)))
def Ia(pc:Ee->Ee->Int)(p_data:List Ee)(p_a:Int)(j1:Int->Option (List Ee)):Nat->Int->Int->Option (List Ee)
  |0,_,_=>none
  |m1+1,x1,x2=>if decide (x1<x2) then
  Fm (fun(x3:Int) (x4:Int)=>
  Ia pc p_data p_a j1 m1 x3 x4) (λj2=>
  Chk (inB (W (Hc .u64 (IntKind.wrap .u64 (W (x1+x2))) 1)) p_data.length) (
  Chk (inB p_a p_data.length) (
  Fm (fun(x5:Int) (x6:Int)=>
  j2 x5 x6) (λj3=>
  if decide ((pc (nth p_data (W (Hc .u64 (IntKind.wrap .u64 (W (x1+x2))) 1))) (nth p_data p_a))<0) then
  j3 (W ((W (Hc .u64 (IntKind.wrap .u64 (W (x1+x2))) 1))+1)) x2
  else
  j3 x1 (W (Hc .u64 (IntKind.wrap .u64 (W (x1+x2))) 1))))))
  else
  j1 x1
def Iw(pc:Ee->Ee->Int)(x1:Int)(j4:(List Ee)->Option (List Ee)):Nat->(List Ee)->Int->Option (List Ee)
  |0,_,_=>none
  |m2+1,x7,x8=>if decide (x8<(W (x1-1))) then
  Chk (inB (W (x8+1)) x7.length) (
  Chk (inB x8 x7.length) (
  Chk (inB x8 x7.length) (
  Chk (inB (W (x8+1)) (x7.set x8.toNat (nth x7 (W (x8+1)))).length) (
  Iw pc x1 j4 m2 ((x7.set x8.toNat (nth x7 (W (x8+1)))).set ((W (x8+1)).toNat) (nth x7 x8)) (W (x8+1))))))
  else
  j4 x7
def Ib(pc:Ee->Ee->Int)(p_m:Int)(p_data:List Ee)(j5:Int->Option (List Ee)):Nat->Int->Int->Option (List Ee)
  |0,_,_=>none
  |m3+1,x9,x10=>if decide (x9<x10) then
  Fm (fun(x11:Int) (x12:Int)=>
  Ib pc p_m p_data j5 m3 x11 x12) (λj6=>
  Chk (inB p_m p_data.length) (
  Chk (inB (W (Hc .u64 (IntKind.wrap .u64 (W (x9+x10))) 1)) p_data.length) (
  Fm (fun(x13:Int) (x14:Int)=>
  j6 x13 x14) (λj7=>
  if !(decide ((pc (nth p_data p_m) (nth p_data (W (Hc .u64 (IntKind.wrap .u64 (W (x9+x10))) 1))))<0)) then
  j7 (W ((W (Hc .u64 (IntKind.wrap .u64 (W (x9+x10))) 1))+1)) x10
  else
  j7 x9 (W (Hc .u64 (IntKind.wrap .u64 (W (x9+x10))) 1))))))
  else
  j5 x9
def Iy(pc:Ee->Ee->Int)(x9:Int)(j8:(List Ee)->Option (List Ee)):Nat->(List Ee)->Int->Option (List Ee)
  |0,_,_=>none
  |m4+1,x15,x16=>if decide (x9<x16) then
  Chk (inB (W (x16-1)) x15.length) (
  Chk (inB x16 x15.length) (
  Chk (inB x16 x15.length) (
  Chk (inB (W (x16-1)) (x15.set x16.toNat (nth x15 (W (x16-1)))).length) (
  Iy pc x9 j8 m4 ((x15.set x16.toNat (nth x15 (W (x16-1)))).set ((W (x16-1)).toNat) (nth x15 x16)) (W (x16-1))))))
  else
  j8 x15
def Ic(pc:Ee->Ee->Int)(p_a:Int)(p_b:Int)(p_m:Int)(p_data:List Ee)(j10:Int->Option (List Ee)):Nat->Int->Int->Option (List Ee)
  |0,_,_=>none
  |m5+1,x19,x20=>if decide (x19<x20) then
  Fm (fun(x21:Int) (x22:Int)=>
  Ic pc p_a p_b p_m p_data j10 m5 x21 x22) (λj11=>
  Chk (inB (W ((W ((W ((W (Hc .u64 (IntKind.wrap .u64 (W (p_a+p_b))) 1))+p_m))-1))-(W (Hc .u64 (IntKind.wrap .u64 (W (x19+x20))) 1)))) p_data.length) (
  Chk (inB (W (Hc .u64 (IntKind.wrap .u64 (W (x19+x20))) 1)) p_data.length) (
  Fm (fun(x23:Int) (x24:Int)=>
  j11 x23 x24) (λj12=>
  if !(decide ((pc (nth p_data (W ((W ((W ((W (Hc .u64 (IntKind.wrap .u64 (W (p_a+p_b))) 1))+p_m))-1))-(W (Hc .u64 (IntKind.wrap .u64 (W (x19+x20))) 1))))) (nth p_data (W (Hc .u64 (IntKind.wrap .u64 (W (x19+x20))) 1))))<0)) then
  j12 (W ((W (Hc .u64 (IntKind.wrap .u64 (W (x19+x20))) 1))+1)) x20
  else
  j12 x19 (W (Hc .u64 (IntKind.wrap .u64 (W (x19+x20))) 1))))))
  else
  j10 x19
def Pi(pc:Ee->Ee->Int)(self:(List Ee)->Int->Int->Int->Option (List Ee))(p_data:List Ee)(p_a:Int)(p_m:Int)(p_b:Int):Option (List Ee):=
  if decide ((W (p_m-p_a))=1) then
  Fm (fun(x1:Int)=>
  Fm (fun(x7:List Ee)=>
  some x7) (λj4=>
  Iw pc x1 j4 (((W (x1-1))-p_a).toNat+2) p_data p_a)) (λj1=>
  Ia pc p_data p_a j1 ((p_b-p_m).toNat+2) p_m p_b)
  else
  if decide ((W (p_b-p_m))=1) then
  Fm (fun(x9:Int)=>
  Fm (fun(x15:List Ee)=>
  some x15) (λj8=>
  Iy pc x9 j8 ((p_m-x9).toNat+2) p_data p_m)) (λj5=>
  Ib pc p_m p_data j5 ((p_m-p_a).toNat+2) p_a p_m)
  else
  Fm (fun(x17:Int) (x18:Int)=>
  Fm (fun(x19:Int)=>
  if((decide (x19<p_m)) && (decide (p_m<(W ((W ((W (Hc .u64 (IntKind.wrap .u64 (W (p_a+p_b))) 1))+p_m))-x19))))) then
  none
  else
  Fm (fun(x25:List Ee)=>
  Fm (fun(x26:List Ee)=>
  some x26) (λj14=>
  if((decide ((W (Hc .u64 (IntKind.wrap .u64 (W (p_a+p_b))) 1))<(W ((W ((W (Hc .u64 (IntKind.wrap .u64 (W (p_a+p_b))) 1))+p_m))-x19)))) && (decide ((W ((W ((W (Hc .u64 (IntKind.wrap .u64 (W (p_a+p_b))) 1))+p_m))-x19))<p_b))) then
  Option.bind (self x25 (W (Hc .u64 (IntKind.wrap .u64 (W (p_a+p_b))) 1)) (W ((W ((W (Hc .u64 (IntKind.wrap .u64 (W (p_a+p_b))) 1))+p_m))-x19)) p_b) (λr2=>
  j14 r2)
  else
  j14 x25)) (λj13=>
  if((decide (p_a<x19)) && (decide (x19<(W (Hc .u64 (IntKind.wrap .u64 (W (p_a+p_b))) 1))))) then
  Option.bind (self p_data p_a x19 (W (Hc .u64 (IntKind.wrap .u64 (W (p_a+p_b))) 1))) (λr1=>
  j13 r1)
  else
  j13 p_data)) (λj10=>
  Ic pc p_a p_b p_m p_data j10 ((x18-x17).toNat+2) x17 x18)) (λj9=>
  if decide ((W (Hc .u64 (IntKind.wrap .u64 (W (p_a+p_b))) 1))<p_m) then
  j9 (W ((W ((W (Hc .u64 (IntKind.wrap .u64 (W (p_a+p_b))) 1))+p_m))-p_b)) (W (Hc .u64 (IntKind.wrap .u64 (W (p_a+p_b))) 1))
  else
  j9 p_a p_m)
def Hp(pc:Ee->Ee->Int):Nat->(List Ee)->Int->Int->Int->Option (List Ee)
  |0,_,_,_,_=>none
  |m+1,p_data,p_a,p_m,p_b=>Pi pc (Hp pc m) p_data p_a p_m p_b
def Hw(pc:Ee->Ee->Int)(p_n:Int)(j1:(List Ee)->Int->Option (List Ee)):Nat->(List Ee)->Int->Int->Option (List Ee)
  |0,_,_,_=>none
  |m1+1,x1,x2,x3=>if decide (x3<=p_n) then
  Option.bind (Ii pc x1 x2 x3) (λr1=>
  Hw pc p_n j1 m1 r1 x3 (W (x3+20)))
  else
  j1 x1 x2
def Iq(pc:Ee->Ee->Int)(p_n:Int)(x5:Int)(j3:(List Ee)->Int->Option (List Ee)):Nat->(List Ee)->Int->Int->Option (List Ee)
  |0,_,_,_=>none
  |m3+1,x6,x7,x8=>if decide (x8<=p_n) then
  Option.bind (Hp pc 16 x6 x7 (W (x7+x5)) x8) (λr3=>
  Iq pc p_n x5 j3 m3 r3 x8 (W (x8+(W (2*x5)))))
  else
  j3 x6 x7
def Gq(pc:Ee->Ee->Int)(p_n:Int)(j2:(List Ee)->Option (List Ee)):Nat->(List Ee)->Int->Option (List Ee)
  |0,_,_=>none
  |m2+1,x4,x5=>if decide (x5<p_n) then
  Fm (fun(x6:List Ee) (x7:Int)=>
  Fm (fun(x9:List Ee)=>
  Gq pc p_n j2 m2 x9 (W (x5*2))) (λj4=>
  if decide ((W (x7+x5))<p_n) then
  Option.bind (Hp pc 16 x6 x7 (W (x7+x5)) p_n) (λr4=>
  j4 r4)
  else
  j4 x6)) (λj3=>
  Iq pc p_n x5 j3 ((p_n-(W (2*x5))).toNat+2) x4 0 (W (2*x5)))
  else
  j2 x4
def Pd(pc:Ee->Ee->Int)(p_data:List Ee)(p_n:Int):Option (List Ee):=
  Fm (fun(x1:List Ee) (x2:Int)=>
  Option.bind (Ii pc x1 x2 p_n) (λr2=>
  Fm (fun(x4:List Ee)=>
  some x4) (λj2=>
  Gq pc p_n j2 ((p_n-20).toNat+2) r2 20))) (λj1=>
  Hw pc p_n j1 ((p_n-20).toNat+2) p_data 0 20)
def Hi(pc:Ee->Ee->Int)(p_x:List Ee):Option (List Ee):=
  Option.bind (Pd pc p_x (p_x.length:Int)) (λr1=>
  some r1)
def Ue(p_l:List Ee):Option (List Ee):=
  Option.bind (Rh p_l) (λr1=>
  Option.bind (Hi Me r1) (λr2=>
  some r2))
def Uf(p_at:Int)(p_first:Int)(p_end:Int):Int:=
  if decide (p_at=p_first) then
  W (p_end-1)
  else
  W (p_at-1)
def Nu(p_p:Fq)(j1:(List Int)->Option (List Int)):Nat->(List Int)->Int->Option (List Int)
  |0,_,_=>none
  |m1+1,x1,x2=>if decide ((x1.length:Int)<(W ((W (p_p.High-p_p.Low))+1))) then
  Fm (fun(x3:List Int)=>
  Nu p_p j1 m1 x3 (W (x2+1))) (λj2=>
  Fm (fun(x4:List Int)=>
  Fm (fun(x5:List Int)=>
  j2 x5) (λj4=>
  if decide (p_p.Low<=(W ((W (Int.tdiv (W (p_p.Low+p_p.High)) 2))-x2))) then
  Chk (Ok x4.length) (
  j4 (x4++[W ((W (Int.tdiv (W (p_p.Low+p_p.High)) 2))-x2)]))
  else
  j4 x4)) (λj3=>
  if decide ((W ((W (Int.tdiv (W (p_p.Low+p_p.High)) 2))+x2))<=p_p.High) then
  Chk (Ok x1.length) (
  j3 (x1++[W ((W (Int.tdiv (W (p_p.Low+p_p.High)) 2))+x2)]))
  else
  j3 x1))
  else
  j1 x1
def Ug(p_p:Fq):Option (List Int):=
  Fm (fun(x1:List Int)=>
  some x1) (λj1=>
  Nu p_p j1 (((W ((W (p_p.High-p_p.Low))+1))-(([W (Int.tdiv (W (p_p.Low+p_p.High)) 2)]:List Int).length:Int)).toNat+2) ([W (Int.tdiv (W (p_p.Low+p_p.High)) 2)]:List Int) 1)
def Oi(p_a:Eo)(p_b:Eo):Int:=
  (Tl [(Ho p_a.Heat p_b.Heat),(Ho p_a.Lane p_b.Lane)])
open Classical in
def Mk(p_x:List Eo):Option (List Eo):=if BH Oi p_x/\p_x.length<4611686018427387904 then some (Pa Oi p_x) else none
def Yd(p_l:List Eo):Option (List Eo):=
  Option.bind (Mk p_l) (λr1=>
  some r1)
def Po(r1:(List Int))(i1:Nat)(j2:(List Eo)->Option (List Eo)):List ByteArray->Nat->(List Eo)->Option (List Eo)
  |[],_,x2=>j2 x2
  |y2::ys2,i2,x2=>Chk (inB (i2:Int) r1.length) (
  Chk (Ok x2.length) (
  Po r1 i1 j2 ys2 (i2+1) (x2++[(Eo.mk y2 (W ((i1:Int)+1)) (nth r1 (i2:Int)))])))
def Pp(r1:(List Int))(j1:(List Eo)->Option (List Eo)):List (List ByteArray)->Nat->(List Eo)->Option (List Eo)
  |[],_,x1=>j1 x1
  |y1::ys1,i1,x1=>Fm (fun(x2:List Eo)=>
  Pp r1 j1 ys1 (i1+1) x2) (λj2=>
  Po r1 i1 j2 y1 0 x1)
def Tf(p_p:Fq)(p_heats:List (List ByteArray)):Option (List Eo):=
  Option.bind (Ug p_p) (λr1=>
  Fm (fun(x1:List Eo)=>
  Option.bind (Yd x1) (λr3=>
  some r3)) (λj1=>
  Pp r1 j1 p_heats 0 ([]:List Eo)))
def Qm(j2:Int->Option ((List Eo)×Int)):List Int->Nat->Int->Option ((List Eo)×Int)
  |[],_,x2=>j2 x2
  |y1::ys1,i1,x2=>Qm j2 ys1 (i1+1) (W (x2+y1))
def Ri(x3:List (List ByteArray))(r1:(List Int)×Int)(x1:Int)(j4:Int->Option ((List Eo)×Int)):Nat->Int->Option ((List Eo)×Int)
  |0,_=>none
  |m1+1,x5=>Chk (inB x5 x3.length) (
  Chk (inB x5 r1.1.length) (
  if decide (((nth x3 x5).length:Int)=(nth r1.1 x5)) then
  Ri x3 r1 x1 j4 m1 (Uf x5 (W ((r1.1.length:Int)-x1)) (r1.1.length:Int))
  else
  j4 x5))
def Pe(r1:(List Int)×Int)(x1:Int)(j3:(List (List ByteArray))->Option ((List Eo)×Int)):List Ee->Nat->(List (List ByteArray))->Int->Option ((List Eo)×Int)
  |[],_,x3,_=>j3 x3
  |y2::ys2,i2,x3,x4=>Fm (fun(x5:Int)=>
  Chk (inB x5 x3.length) (
  Chk (Ok (nth x3 x5).length) (
  Pe r1 x1 j3 ys2 (i2+1) (x3.set x5.toNat ((nth x3 x5)++[y2.Who])) (Uf x5 (W ((r1.1.length:Int)-x1)) (r1.1.length:Int))))) (λj4=>
  Ri x3 r1 x1 j4 4611686018427387904 x4)
def Rj(x8:Int)(j6:(List (List ByteArray))->Option ((List Eo)×Int)):List Ee->Nat->(List (List ByteArray))->Option ((List Eo)×Int)
  |[],_,x9=>j6 x9
  |y3::ys3,i5,x9=>Chk (inB x8 x9.length) (
  Chk (Ok (nth x9 x8).length) (
  Rj x8 j6 ys3 (i5+1) (x9.set x8.toNat ((nth x9 x8)++[y3.Who]))))
def Pw(r1:(List Int)×Int)(j5:(List (List ByteArray))->Option ((List Eo)×Int)):Nat->(List (List ByteArray))->(List Ee)->Int->Option ((List Eo)×Int)
  |0,_,_,_=>none
  |m2+1,x6,x7,x8=>if decide (0<=x8) then
  Chk (inB x8 r1.1.length) (
  Chk (Yt 0 (nth r1.1 x8) x7.length) (
  Fm (fun(x9:List (List ByteArray))=>
  Chk (inB x8 r1.1.length) (
  Chk (Yt (nth r1.1 x8) (x7.length:Int) x7.length) (
  Pw r1 j5 m2 x9 (cut x7 (nth r1.1 x8) x7.length) (W (x8-1))))) (λj6=>
  Rj x8 j6 (cut x7 0 (nth r1.1 x8)) 0 x6)))
  else
  j5 x6
def Zx(p_p:Fq)(p_l:List Ee):Option ((List Eo)×Int):=
  Option.bind (BL p_p (p_l.length:Int)) (λr1=>
  if !decide (r1.2=0) then
  some (([]:List Eo),r1.2)
  else
  Chk (decide (0<=(r1.1.length:Int)) && decide ((r1.1.length:Int)<1073741824)) (
  Fm (fun(x1:Int)=>
  Chk (Yt (W ((r1.1.length:Int)-x1)) (r1.1.length:Int) r1.1.length) (
  Fm (fun(x2:Int)=>
  Option.bind (Ue p_l) (λr2=>
  Chk (Yt 0 x2 r2.length) (
  Fm (fun(x3:List (List ByteArray))=>
  Chk (Yt x2 (r2.length:Int) r2.length) (
  Fm (fun(x6:List (List ByteArray))=>
  Option.bind (Tf p_p x6) (λr3=>
  some (r3,0))) (λj5=>
  Pw r1 j5 (((W ((W ((r1.1.length:Int)-x1))-1))-0).toNat+2) x3 (cut r2 x2 r2.length) (W ((W ((r1.1.length:Int)-x1))-1))))) (λj3=>
  Pe r1 x1 j3 (cut r2 0 x2) 0 (List.replicate ((r1.1.length:Int).toNat) []:List (List ByteArray)) (W ((r1.1.length:Int)-1)))))) (λj2=>
  Qm j2 (cut r1.1 (W ((r1.1.length:Int)-x1)) r1.1.length) 0 0))) (λj1=>
  if decide ((Rs p_p.Circles (r1.1.length:Int))<2) then
  j1 0
  else
  j1 (Rs p_p.Circles (r1.1.length:Int)))))
def FY(p_p:Fq)(p_l:List Ee):Option ((List Eo)×Int):=
  Option.bind (Zf p_p p_l) (λr1=>
  if !decide (r1=0) then
  some (([]:List Eo),r1)
  else
  Option.bind (Zx p_p p_l) (λr2=>
  some (r2.1,r2.2)))
def AJ(p_p:Lc)(p_q:Fq)(p_l:List An)(p_race:ByteArray)(p_at:Int):Option ((List Eo)×Int):=
  Option.bind (Sm p_p) (λr1=>
  if !decide (r1=0) then
  some (([]:List Eo),r1)
  else
  if !decide ((Pn p_q)=0) then
  some (([]:List Eo),(Pn p_q))
  else
  Option.bind (Vg p_p p_l p_race p_at) (λr2=>
  if !decide (r2.2.2=0) then
  some (([]:List Eo),r2.2.2)
  else
  Option.bind (r2.1) (λr3=>
  Option.bind (Vz r3.p_ r3.deeds_ p_race) (λr4=>
  Option.bind (FY p_q r4) (λr5=>
  some (r5.1,r5.2))))))
def Qz(p_race:ByteArray)(j1:(List (ByteArray×An))->(List (ByteArray×An))):List An->Nat->(List (ByteArray×An))->(List (ByteArray×An))
  |[],_,x1=>j1 x1
  |y1::ys1,i1,x1=>Fm (fun(x2:List (ByteArray×An))=>
  Qz p_race j1 ys1 (i1+1) x2) (λj2=>
  Fm (fun(x3:List (ByteArray×An))=>
  j2 x3) (λj3=>
  if((decide (y1.Race=p_race)) && (decide (y1.Kind=3))) then
  j3 (Jd x1 y1.Who y1)
  else
  j3 x1))
def Kp(p_s_p:Lc)(p_s_deeds:List An)(p_race:ByteArray):(List (ByteArray×An)):=
  Fm (fun(x1:List (ByteArray×An))=>
  x1) (λj1=>
  Qz p_race j1 p_s_deeds 0 ([]:List (ByteArray×An)))
def Kv(p_v:List Js)(j1:Option Int):List Js->Nat->Option Int
  |[],_=>j1
  |y1::ys1,i1=>Option.bind (Hy y1.Who) (λr2=>
  if !r2 then
  some 5
  else
  if !(Ei y1.Fault 0 8) then
  some 4
  else
  Fm (fun(c1:Bool)=>
  if c1 then
  some 7
  else
  Kv p_v j1 ys1 (i1+1)) (λj2=>
  if(decide (0<(i1:Int))) then Chk (inB (W ((i1:Int)-1)) p_v.length) (
  j2 ((decide (0<(i1:Int))) && (OI y1.Who ((nth p_v (W ((i1:Int)-1))).Who)||decide (y1.Who=((nth p_v (W ((i1:Int)-1))).Who))))) else j2 ((decide (0<(i1:Int))) && true)))
def Sz(p_v:List Js):Option Int:=
  if decide (300<(p_v.length:Int)) then
  some 2
  else
  Fm (some 0) (λj1=>
  Kv p_v j1 p_v 0)
def Xx(p_a:Eg)(p_b:Eg)(p_a2:Int):Option Int:=
  Chk (!decide (p_a2=0)) (
  Chk (!decide (p_a2=0)) (
  some (W ((W (Int.tdiv p_a.Time p_a2))-(W (Int.tdiv p_b.Time p_a2))))))
def Ff(p_a:Int)(p_cmp_0:Int)(j2:(List Eg)->Option (List Eg)):Nat->(List Eg)->Int->Option (List Eg)
  |0,_,_=>none
  |m2+1,x3,x4=>Fm (fun(x5:Bool)=>
  if x5 then
  Chk (inB (W (x4-1)) x3.length) (
  Chk (inB x4 x3.length) (
  Chk (inB x4 x3.length) (
  Chk (inB (W (x4-1)) (x3.set x4.toNat (nth x3 (W (x4-1)))).length) (
  Ff p_a p_cmp_0 j2 m2 ((x3.set x4.toNat (nth x3 (W (x4-1)))).set ((W (x4-1)).toNat) (nth x3 x4)) (W (x4-1))))))
  else
  j2 x3) (λj3=>
  if decide (p_a<x4) then
  Chk (inB x4 x3.length) (
  Chk (inB (W (x4-1)) x3.length) (
  Option.bind (Xx (nth x3 x4) (nth x3 (W (x4-1))) p_cmp_0) (λr1=>
  j3 (decide (r1<0)))))
  else
  j3 false)
def Fu(p_b:Int)(p_a:Int)(p_cmp_0:Int)(j1:(List Eg)->Option (List Eg)):Nat->(List Eg)->Int->Option (List Eg)
  |0,_,_=>none
  |m1+1,x1,x2=>if decide (x2<p_b) then
  Fm (fun(x3:List Eg)=>
  Fu p_b p_a p_cmp_0 j1 m1 x3 (W (x2+1))) (λj2=>
  Ff p_a p_cmp_0 j2 ((x2-p_a).toNat+2) x1 x2)
  else
  j1 x1
def Ie(p_data:List Eg)(p_a:Int)(p_b:Int)(p_cmp_0:Int):Option (List Eg):=
  Fm (fun(x1:List Eg)=>
  some x1) (λj1=>
  Fu p_b p_a p_cmp_0 j1 ((p_b-(W (p_a+1))).toNat+2) p_data (W (p_a+1)))
def Gr(p_n:Int)(p_cmp_0:Int)(j1:(List Eg)->Int->Option (List Eg)):Nat->(List Eg)->Int->Int->Option (List Eg)
  |0,_,_,_=>none
  |m1+1,x1,x2,x3=>if decide (x3<=p_n) then
  Option.bind (Ie x1 x2 x3 p_cmp_0) (λr1=>
  Gr p_n p_cmp_0 j1 m1 r1 x3 (W (x3+20)))
  else
  j1 x1 x2
def Hx(p_n:Int)(j3:Int->Option (List Eg)):Nat->Int->Int->Option (List Eg)
  |0,_,_=>none
  |_+1,x5,x6=>if decide (x6<=p_n) then
  none
  else
  j3 x5
def Gs(p_n:Int)(j2:Option (List Eg)):Nat->Int->Option (List Eg)
  |0,_=>none
  |m2+1,x4=>if decide (x4<p_n) then
  Fm (fun(x5:Int)=>
  if decide ((W (x5+x4))<p_n) then
  none
  else
  Gs p_n j2 m2 (W (x4*2))) (λj3=>
  Hx p_n j3 ((p_n-(W (2*x4))).toNat+2) 0 (W (2*x4)))
  else
  j2
def Mf(p_data:List Eg)(p_n:Int)(p_cmp_0:Int):Option (List Eg):=
  Fm (fun(x1:List Eg) (x2:Int)=>
  Option.bind (Ie x1 x2 p_n p_cmp_0) (λr2=>
  Fm (some r2) (λj2=>
  Gs p_n j2 ((p_n-20).toNat+2) 20))) (λj1=>
  Gr p_n p_cmp_0 j1 ((p_n-20).toNat+2) p_data 0 20)
def Ke(p_x:List Eg)(p_cmp_0:Int):Option (List Eg):=
  Option.bind (Mf p_x (p_x.length:Int) p_cmp_0) (λr1=>
  some r1)
def Rb(j1:(List (ByteArray×Int))->Option ((List Eg)×Int)):List Js->Nat->(List (ByteArray×Int))->Option ((List Eg)×Int)
  |[],_,x1=>j1 x1
  |y1::ys1,i1,x1=>Rb j1 ys1 (i1+1) (Jd x1 y1.Who y1.Fault)
def Qf(x1:List (ByteArray×Int))(j2:(List Eg)->(List Eg)->Option ((List Eg)×Int)):List Ee->Nat->(List Eg)->(List Eg)->Option ((List Eg)×Int)
  |[],_,x2,x3=>j2 x2 x3
  |y2::ys2,i2,x2,x3=>Fm (fun(x4:List Eg) (x5:List Eg)=>
  Qf x1 j2 ys2 (i2+1) x4 x5) (λj3=>
  Fm (fun(x6:List Eg) (x7:List Eg)=>
  j3 x6 x7) (λj4=>
  if((decide ((Fi x1 y2.Who 0)=0)) && (decide (0<y2.Time))) then
  Chk (Ok x3.length) (
  j4 x2 (x3++[(Eg.mk y2.Who 0 y2.Time (Fi x1 y2.Who 0))]))
  else
  Chk (Ok x2.length) (
  j4 (x2++[(Eg.mk y2.Who 0 y2.Time (Fi x1 y2.Who 0))]) x3)))
def Qg(p_by:Int)(j5:(List Eg)->Option ((List Eg)×Int)):List Eg->Nat->(List Eg)->Option ((List Eg)×Int)
  |[],_,x8=>j5 x8
  |_::ys3,i3,x8=>Fm (fun(x9:List Eg)=>
  Qg p_by j5 ys3 (i3+1) x9) (λj6=>
  Fm (fun(c1:Bool)=>
  Fm (fun(x10:List Eg)=>
  j6 x10) (λj8=>
  if c1 then
  Chk (inB (W ((i3:Int)-1)) x8.length) (
  Chk (inB (i3:Int) x8.length) (
  j8 (x8.set ((i3:Int).toNat) (Eg.mk ((nth x8 (i3:Int)).Who) ((nth x8 (W ((i3:Int)-1))).Rank) ((nth x8 (i3:Int)).Time) ((nth x8 (i3:Int)).Fault)))))
  else
  Chk (inB (i3:Int) x8.length) (
  j8 (x8.set ((i3:Int).toNat) (Eg.mk ((nth x8 (i3:Int)).Who) (W ((i3:Int)+1)) ((nth x8 (i3:Int)).Time) ((nth x8 (i3:Int)).Fault)))))) (λj7=>
  if(decide (0<(i3:Int))) then Chk (inB (i3:Int) x8.length) (
  Chk (!decide (p_by=0)) (
  Chk (inB (W ((i3:Int)-1)) x8.length) (
  Chk (!decide (p_by=0)) (
  j7 ((decide (0<(i3:Int))) && (decide ((W (Int.tdiv ((nth x8 (i3:Int)).Time) p_by))=(W (Int.tdiv ((nth x8 (W ((i3:Int)-1))).Time) p_by))))))))) else j7 ((decide (0<(i3:Int))) && true)))
def DF(p_l:List Ee)(p_v:List Js)(p_by:Int):Option ((List Eg)×Int):=
  Option.bind (Su p_l) (λr1=>
  if !decide (r1=0) then
  some (([]:List Eg),r1)
  else
  Option.bind (Sz p_v) (λr2=>
  if !decide (r2=0) then
  some (([]:List Eg),r2)
  else
  Fm (fun(x1:List (ByteArray×Int))=>
  Fm (fun(x2:List Eg) (x3:List Eg)=>
  Option.bind (Ke x3 p_by) (λr4=>
  Fm (fun(x8:List Eg)=>
  Chk (decide (x8.length+x2.length<1073741824)) (
  some ((x8++x2),0))) (λj5=>
  Qg p_by j5 r4 0 r4))) (λj2=>
  Qf x1 j2 p_l 0 ([]:List Eg) ([]:List Eg))) (λj1=>
  Rb j1 p_v 0 ([]:List (ByteArray×Int)))))
def Zy(p_l:List Ee)(p_v:List Js):Option ((List Eg)×Int):=
  Option.bind (DF p_l p_v 1) (λr1=>
  some (r1.1,r1.2))
def Om(p_s_p:Lc)(p_s_deeds:List An)(p_race:ByteArray)(j1:(List Js)->(List Ee)->(List (ByteArray×ByteArray))->Option ((List Eg)×(List (ByteArray×ByteArray))×Int)):List An->Nat->(List Js)->(List Ee)->(List (ByteArray×ByteArray))->Option ((List Eg)×(List (ByteArray×ByteArray))×Int)
  |[],_,x1,x2,x3=>j1 x1 x2 x3
  |y1::ys1,i1,x1,x2,x3=>Fm (fun(x4:List Js) (x5:List Ee) (x6:List (ByteArray×ByteArray))=>
  Om p_s_p p_s_deeds p_race j1 ys1 (i1+1) x4 x5 x6) (λj2=>
  if !((Ys (Kp p_s_p p_s_deeds p_race) y1.Who).isSome) then
  j2 x1 x2 x3
  else
  Chk (Ok x2.length) (
  Fm (fun(x7:List Js)=>
  j2 x7 (x2++[(Ee.mk y1.Who ((Fi (Kp p_s_p p_s_deeds p_race) y1.Who (An.mk Ed 0 0 0 Ed Ed Ed 0 0 Ed 0)).Time))]) (Jd x3 y1.Who y1.Club)) (λj3=>
  if decide (0<((Fi (Kp p_s_p p_s_deeds p_race) y1.Who (An.mk Ed 0 0 0 Ed Ed Ed 0 0 Ed 0)).Fault)) then
  Chk (Ok x1.length) (
  j3 (x1++[(Js.mk y1.Who ((Fi (Kp p_s_p p_s_deeds p_race) y1.Who (An.mk Ed 0 0 0 Ed Ed Ed 0 0 Ed 0)).Fault) ([]:List ByteArray))]))
  else
  j3 x1)))
def Xk(p_s_p:Lc)(p_s_deeds:List An)(p_race:ByteArray):Option ((List Eg)×(List (ByteArray×ByteArray))×Int):=
  Option.bind (Ur p_s_p p_s_deeds p_race) (λr1=>
  Fm (fun(x1:List Js) (x2:List Ee) (x3:List (ByteArray×ByteArray))=>
  Option.bind (Zy x2 x1) (λr2=>
  some (r2.1,x3,r2.2))) (λj1=>
  Om p_s_p p_s_deeds p_race j1 r1 0 ([]:List Js) ([]:List Ee) ([]:List (ByteArray×ByteArray))))
def Xl(p_f:Hn)(p_l:List Ee):Option Int:=
  if !decide ((Qk p_f)=0) then
  some (Qk p_f)
  else
  Option.bind (Su p_l) (λr1=>
  some r1)
def Vh(p_s:Ee):Bool:=
  decide (p_s.Time=0)
def Gm(j1:Int):List Ee->Nat->Int
  |[],_=>j1
  |y1::ys1,i1=>if(Vh y1) then
  (i1:Int)
  else
  Gm j1 ys1 (i1+1)
def Gy(p_s:List Ee):Int:=
  Fm ((-1)) (λj1=>
  Gm j1 p_s 0)
def Hk(j1:(List Ee)->Int->Option (List Ee)):Nat->(List Ee)->Int->Int->Option (List Ee)
  |0,_,_,_=>none
  |m1+1,x1,x2,x3=>if decide (x3<(x1.length:Int)) then
  Fm (fun(x4:List Ee) (x5:Int)=>
  Hk j1 m1 x4 x5 (W (x3+1))) (λj2=>
  Chk (inB x3 x1.length) (
  Fm (fun(x6:List Ee) (x7:Int)=>
  j2 x6 x7) (λj3=>
  if !(Vh (nth x1 x3)) then
  Chk (inB x2 x1.length) (
  j3 (x1.set x2.toNat (nth x1 x3)) (W (x2+1)))
  else
  j3 x1 x2)))
  else
  j1 x1 x2
def Mu(p_s:List Ee):Option (List Ee):=
  if decide ((Gy p_s)=(-1)) then
  some p_s
  else
  Fm (fun(x1:List Ee) (x2:Int)=>
  Chk (Yt x2 (x1.length:Int) x1.length) (
  Chk (Yt 0 x2 (clr x1 x2 (x1.length:Int) (Ee.mk Ed 0)).length) (
  some (cut (clr x1 x2 (x1.length:Int) (Ee.mk Ed 0)) (0:Int) x2)))) (λj1=>
  Hk j1 (((p_s.length:Int)-(W ((Gy p_s)+1))).toNat+2) p_s (Gy p_s) (W ((Gy p_s)+1)))
def AF(p_l:List Ee):Option (List Ee):=
  Option.bind (Ue p_l) (λr1=>
  Option.bind (Mu r1) (λr2=>
  some r2))
def BM(p_f:Hn)(p_i:Int):Option Int:=
  if decide (p_i<(W (p_f.Size*p_f.Many))) then
  Chk (!decide (p_f.Size=0)) (
  some (W ((W (Int.tdiv p_i p_f.Size))+1)))
  else
  if decide (p_i<(W ((W (p_f.Size*p_f.Many))+p_f.Reserves))) then
  some 0
  else
  some (-1)
def Sj(p_time:Int)(j1:Int->Int):List Ee->Nat->Int->Int
  |[],_,x1=>j1 x1
  |y1::ys1,i1,x1=>Fm (fun(x2:Int)=>
  Sj p_time j1 ys1 (i1+1) x2) (λj2=>
  Fm (fun(x3:Int)=>
  j2 x3) (λj3=>
  if decide (y1.Time<p_time) then
  j3 (W (x1+1))
  else
  j3 x1))
def Vi(p_l:List Ee)(p_time:Int):Int:=
  Fm (fun(x1:Int)=>
  x1) (λj1=>
  Sj p_time j1 p_l 0 1)
def Qh(p_f:Hn)(p_l:List Ee)(j1:(List Gh)->Option (List Gh)):List Ee->Nat->(List Gh)->Option (List Gh)
  |[],_,x1=>j1 x1
  |y1::ys1,i1,x1=>Fm (fun(x2:List Gh)=>
  Qh p_f p_l j1 ys1 (i1+1) x2) (λj2=>
  Option.bind (BM p_f (i1:Int)) (λr1=>
  Fm (fun(x3:List Gh)=>
  j2 x3) (λj3=>
  if decide (0<=r1) then
  Chk (Ok x1.length) (
  j3 (x1++[(Gh.mk y1.Who r1 (Vi p_l y1.Time))]))
  else
  j3 x1)))
def CB(p_f:Hn)(p_l:List Ee):Option (List Gh):=
  Fm (fun(x1:List Gh)=>
  some x1) (λj1=>
  Qh p_f p_l j1 p_l 0 ([]:List Gh))
def Yn(p_f:Hn)(p_l:List Ee):Option ((List Gh)×Int):=
  Option.bind (Xl p_f p_l) (λr1=>
  if !decide (r1=0) then
  some (([]:List Gh),r1)
  else
  Option.bind (AF p_l) (λr2=>
  Option.bind (CB p_f r2) (λr3=>
  some (r3,0))))
def Na(j1:(List Ee)->Option ((List Gh)×Int)):List Eg->Nat->(List Ee)->Option ((List Gh)×Int)
  |[],_,x1=>j1 x1
  |y1::ys1,i1,x1=>Fm (fun(x2:List Ee)=>
  Na j1 ys1 (i1+1) x2) (λj2=>
  Fm (fun(x3:List Ee)=>
  j2 x3) (λj3=>
  if decide (0<y1.Rank) then
  Chk (Ok x1.length) (
  j3 (x1++[(Ee.mk y1.Who y1.Time)]))
  else
  j3 x1))
def Vj(p_p:Lc)(p_l:List An)(p_race:ByteArray)(p_at:Int):Option ((List Gh)×Int):=
  Option.bind (Vg p_p p_l p_race p_at) (λr1=>
  if !decide (r1.2.2=0) then
  some (([]:List Gh),r1.2.2)
  else
  Option.bind (r1.1) (λr2=>
  Option.bind (Xk r2.p_ r2.deeds_ r1.2.1.Key) (λr3=>
  if !decide (r3.2.2=0) then
  some (([]:List Gh),r3.2.2)
  else
  Fm (fun(x1:List Ee)=>
  Option.bind (Yn p_p.Final x1) (λr4=>
  some (r4.1,r4.2))) (λj1=>
  Na j1 r3.1 0 ([]:List Ee)))))
def Ez(p_n:Int)(p_low:Int)(p_high:Int):Bool:=
  ((decide (p_low<=p_n)) && (decide (p_n<=p_high)))
def Rk(s:ByteArray)(c:Int):Int:=Lib.indexByte s.data.toList c.toNat.toUInt8
def Xm(p_s:ByteArray):Option Bool:=
  Fm (fun(c1:Bool)=>
  Fm (fun(c2:Bool)=>
  some c2) (λj2=>
  if c1 then Chk (inB 0 p_s.size) (
  j2 (c1 && (decide (0<=(Rk Jo (BZ p_s 0)))))) else j2 (c1 && true))) (λj1=>
  if(Ez (p_s.size:Int) 1 40) then Option.bind (Uc p_s Hu) (λr1=>
  j1 ((Ez (p_s.size:Int) 1 40) && (decide (r1=Ed)))) else j1 ((Ez (p_s.size:Int) 1 40) && true))
def Tm(p_r:Ek):Option Int:=
  Option.bind (Xm p_r.Key) (λr1=>
  if !r1 then
  some 5
  else
  if((!(Ez p_r.Stroke 1 5))||(!(Ez p_r.Sex 0 2))) then
  some 4
  else
  Fm (fun(x1:Bool)=>
  if x1 then
  some 1
  else
  Chk (!decide (p_r.Course=0)) (
  if !decide ((Int.tmod p_r.Metres p_r.Course)=0) then
  some 3
  else
  Fm (fun(c1:Bool)=>
  if c1 then
  some 16
  else
  some 0) (λj5=>
  if(decide (p_r.Stroke=5)) then Fm (fun(c2:Bool)=>
  j5 ((decide (p_r.Stroke=5)) && (c2||((decide (1<p_r.Legs)) && (!decide (p_r.Legs=4)))))) (λj6=>
  if(decide (p_r.Legs=1)) then Chk (!decide ((W (4*p_r.Course))=0)) (
  j6 ((decide (p_r.Legs=1)) && (!decide ((Int.tmod p_r.Metres (W (4*p_r.Course)))=0)))) else j6 ((decide (p_r.Legs=1)) && true)) else j5 ((decide (p_r.Stroke=5)) && true)))) (λj1=>
  if((!decide (p_r.Course=25)) && (!decide (p_r.Course=50))) then
  j1 ((!decide (p_r.Course=25)) && (!decide (p_r.Course=50)))
  else
  Fm (fun(x2:Bool)=>
  j1 x2) (λj2=>
  if !(Ez p_r.Legs 1 4) then
  j2 (!(Ez p_r.Legs 1 4))
  else
  Fm (fun(x3:Bool)=>
  j2 x3) (λj3=>
  if !(Ez p_r.Metres 25 1500) then
  j3 (!(Ez p_r.Metres 25 1500))
  else
  Fm (fun(x4:Bool)=>
  j3 x4) (λj4=>
  if !(Ez p_r.Young 0 p_r.Old) then
  j4 (!(Ez p_r.Young 0 p_r.Old))
  else
  j4 (decide (120<p_r.Old)))))))
def Kf(p_key:ByteArray)(j1:(Ek×Bool)):List Ek->Nat->(Ek×Bool)
  |[],_=>j1
  |y1::ys1,i1=>if decide (y1.Key=p_key) then
  (y1,true)
  else
  Kf p_key j1 ys1 (i1+1)
def Mg(p_l:List Ek)(p_key:ByteArray):(Ek×Bool):=
  Fm (((Ek.mk Ed 0 0 0 0 0 0 0),false)) (λj1=>
  Kf p_key j1 p_l 0)
def Jg(p_n:Int)(p_low:Int)(p_high:Int):Bool:=
  ((decide (p_low<=p_n)) && (decide (p_n<=p_high)))
def Kw(p_t:Qy)(j1:Option Int):List Int->Nat->Option Int
  |[],_=>j1
  |y1::ys1,i1=>if !(Jg y1 0 10000) then
  some 1
  else
  Fm (fun(c1:Bool)=>
  if c1 then
  some 7
  else
  Kw p_t j1 ys1 (i1+1)) (λj2=>
  if(decide (0<(i1:Int))) then Chk (inB (W ((i1:Int)-1)) p_t.Points.length) (
  j2 ((decide (0<(i1:Int))) && (decide ((nth p_t.Points (W ((i1:Int)-1)))<y1)))) else j2 ((decide (0<(i1:Int))) && true))
def Ta(p_t:Qy):Option Int:=
  if decide (40<(p_t.Points.length:Int)) then
  some 2
  else
  Fm (if((!(Jg p_t.Relay 1 10))||(!(Jg p_t.Most 0 10))) then
  some 1
  else
  some 0) (λj1=>
  Kw p_t j1 p_t.Points 0)
def Nr(p_f:Hn):Int:=
  if(((!(Ez p_f.Size 1 10))||(!(Ez p_f.Many 1 5)))||(!(Ez p_f.Reserves 0 10))) then
  1
  else
  0
def Lk(p_p:Lc)(j1:Option Int):List Ek->Nat->Option Int
  |[],_=>j1
  |y1::ys1,i1=>Option.bind (Tm y1) (λr1=>
  if !decide (r1=0) then
  some r1
  else
  Fm (if(Mg (cut p_p.Races 0 (i1:Int)) y1.Key).2 then
  some 6
  else
  Lk p_p j1 ys1 (i1+1)) (λj2=>
  Chk (Yt 0 (i1:Int) p_p.Races.length) (
  j2)))
def Qq(p_p:Lc):Option Int:=
  if decide (100<(p_p.Races.length:Int)) then
  some 2
  else
  Fm (Option.bind (Ta p_p.Table) (λr2=>
  if !decide (r2=0) then
  some r2
  else
  some (Nr p_p.Final))) (λj1=>
  Lk p_p j1 p_p.Races 0)
def Nx(p_s:ByteArray)(p_some:ByteArray)(j1:Option Bool):Nat->Int->Option Bool
  |0,_=>none
  |m1+1,x1=>if decide (x1<(p_s.size:Int)) then
  Chk (inB x1 p_s.size) (
  if decide ((Rk p_some (BZ p_s x1))<0) then
  some false
  else
  Nx p_s p_some j1 m1 (W (x1+1)))
  else
  j1
def Wo(p_s:ByteArray)(p_some:ByteArray):Option Bool:=
  Fm (some true) (λj1=>
  Nx p_s p_some j1 (((p_s.size:Int)-0).toNat+2) 0)
def Sk(p_s:ByteArray):Option Bool:=
  Fm (fun(c1:Bool)=>
  Fm (fun(c2:Bool)=>
  some c2) (λj2=>
  if c1 then Option.bind (Wo p_s Hu) (λr2=>
  j2 (c1 && r2)) else j2 (c1 && true))) (λj1=>
  if(Jg (p_s.size:Int) 1 40) then Chk (Yt 0 1 p_s.size) (
  Option.bind (Wo (XK p_s 0 1) Jo) (λr1=>
  j1 ((Jg (p_s.size:Int) 1 40) && r1))) else j1 ((Jg (p_s.size:Int) 1 40) && true))
def On(p_at:Int):Bool:=
  (Jg p_at 0 345686399999)
def To(p_d:An):Option Int:=
  Option.bind (Sk p_d.Site) (λr1=>
  if !r1 then
  some 5
  else
  if((!(Jg p_d.No 1 1000000))||(!(On p_d.At))) then
  some 1
  else
  if !(Jg p_d.Kind 1 4) then
  some 4
  else
  Fm (fun(x1:ByteArray) (x2:ByteArray) (x3:ByteArray) (x4:Int)=>
  Fm (fun(x5:ByteArray)=>
  Fm (fun(x6:Int)=>
  Fm (fun(x7:Int)=>
  if !decide (p_d=(An.mk p_d.Site p_d.No p_d.At p_d.Kind x1 x5 x2 x6 x7 x3 x4)) then
  some 3
  else
  some 0) (λj7=>
  if decide (p_d.Kind=3) then
  if !(Jg p_d.Fault 0 8) then
  some 1
  else
  j7 p_d.Fault
  else
  j7 0)) (λj6=>
  if((decide (p_d.Kind=1))||(decide (p_d.Kind=3))) then
  if !(Jg p_d.Time 0 360000) then
  some 1
  else
  j6 p_d.Time
  else
  j6 0)) (λj5=>
  if decide (p_d.Kind=1) then
  j5 p_d.Club
  else
  j5 Ed)) (λj1=>
  if decide (p_d.Kind=4) then
  Option.bind (Sk p_d.Of) (λr2=>
  if !r2 then
  some 5
  else
  if !(Jg p_d.Other 1 1000000) then
  some 1
  else
  j1 Ed Ed p_d.Of p_d.Other)
  else
  Option.bind (Sk p_d.Who) (λr3=>
  Fm (fun(c1:Bool)=>
  Fm (fun(c2:Bool)=>
  if c2 then
  some 5
  else
  j1 p_d.Who p_d.Race Ed 0) (λj3=>
  if c1 then j3 (c1||true) else Fm (fun(c3:Bool)=>
  j3 (c1||c3)) (λj4=>
  if((decide (p_d.Kind=1)) && (!decide (p_d.Club=Ed))) then Option.bind (Sk p_d.Club) (λr5=>
  j4 (((decide (p_d.Kind=1)) && (!decide (p_d.Club=Ed))) && (!r5))) else j4 (((decide (p_d.Kind=1)) && (!decide (p_d.Club=Ed))) && true)))) (λj2=>
  if(!r3) then j2 ((!r3)||true) else Option.bind (Sk p_d.Race) (λr4=>
  j2 ((!r3)||(!r4)))))))
def Ye(p_a:An)(p_b:An):Bool:=
  ((decide (p_a.Site=p_b.Site)) && (decide (p_a.No=p_b.No)))
def Rl(p_o:An)(p_a1:An):Bool:=
  (Ye p_o p_a1)
def Fj(p_f_0:An)(j1:Int):List An->Nat->Int
  |[],_=>j1
  |y1::ys1,i1=>if(Rl y1 p_f_0) then
  (i1:Int)
  else
  Fj p_f_0 j1 ys1 (i1+1)
def Ny(p_s:List An)(p_f_0:An):Int:=
  Fm ((-1)) (λj1=>
  Fj p_f_0 j1 p_s 0)
def Ko(p_s:List An)(p_f_0:An):Bool:=
  decide (0<=(Ny p_s p_f_0))
def Jf(p_l:List An)(j1:Option Int):List An->Nat->Option Int
  |[],_=>j1
  |y1::ys1,i1=>Option.bind (To y1) (λr1=>
  if !decide (r1=0) then
  some r1
  else
  Fm (fun(x1:Bool)=>
  if x1 then
  some 7
  else
  Jf p_l j1 ys1 (i1+1)) (λj2=>
  if decide (0<(i1:Int)) then
  Chk (inB (W ((i1:Int)-1)) p_l.length) (
  j2 (decide (0<=(Ln (nth p_l (W ((i1:Int)-1))) y1))))
  else
  j2 false))
def Kg(p_l:List An)(j3:Option Int):List An->Nat->Option Int
  |[],_=>j3
  |y2::ys2,i2=>Chk (Yt 0 (i2:Int) p_l.length) (
  if(Ko (cut p_l 0 (i2:Int)) y2) then
  some 6
  else
  Kg p_l j3 ys2 (i2+1))
def Rr(p_l:List An):Option Int:=
  if decide (2000<(p_l.length:Int)) then
  some 2
  else
  Fm (Fm (some 0) (λj3=>
  Kg p_l j3 p_l 0)) (λj1=>
  Jf p_l j1 p_l 0)
def AG(p_is:Bool)(p_e:Int):Int:=
  if p_is then
  p_e
  else
  0
def Fw(p_at:Int):Int:=
  (AG (!(On p_at)) 1)
def Ma(j1:Int):List Int->Nat->Int
  |[],_=>j1
  |y1::ys1,i1=>if !decide (y1=0) then
  y1
  else
  Ma j1 ys1 (i1+1)
def Jn(p_l:List Int):Int:=
  Fm (0) (λj1=>
  Ma j1 p_l 0)
def Ox(p_p:Lc)(p_l:List An)(p_at:Int):Option Int:=
  Option.bind (Qq p_p) (λr1=>
  if !decide (r1=0) then
  some r1
  else
  Option.bind (Rr p_l) (λr2=>
  some (Jn [r2,(Fw p_at)])))
def Ij(p_p:Fq):Int:=
  if((((!(Ez p_p.Low 1 p_p.High))||(decide (10<p_p.High)))||(!(Ez p_p.Least 1 (W ((W (p_p.High-p_p.Low))+1)))))||(!(Ez p_p.Circles 1 10))) then
  1
  else
  0
def Hr(p_a1:List An)(p_i:Int)(self:Int->(List An)->Option Bool)(j1:Option Bool):Nat->Int->Option Bool
  |0,_=>none
  |m1+1,x1=>if decide (x1<(p_a1.length:Int)) then
  Fm (fun(x2:Bool)=>
  if x2 then
  some false
  else
  Hr p_a1 p_i self j1 m1 (W (x1+1))) (λj2=>
  Chk (inB x1 p_a1.length) (
  if decide (((nth p_a1 x1).Kind)=4) then
  Chk (inB x1 p_a1.length) (
  Chk (inB p_i p_a1.length) (
  if decide (((nth p_a1 x1).Of)=((nth p_a1 p_i).Site)) then
  Chk (inB x1 p_a1.length) (
  Chk (inB p_i p_a1.length) (
  if decide (((nth p_a1 x1).Other)=((nth p_a1 p_i).No)) then
  Option.bind (self x1 p_a1) (λr1=>
  j2 r1)
  else
  Chk (inB x1 p_a1.length) (
  Chk (inB x1 p_a1.length) (
  Chk (inB p_i p_a1.length) (
  Chk (inB x1 p_a1.length) (
  Chk (inB p_i p_a1.length) (
  j2 false)))))))
  else
  Chk (inB x1 p_a1.length) (
  Chk (inB x1 p_a1.length) (
  Chk (inB p_i p_a1.length) (
  j2 false)))))
  else
  Chk (inB x1 p_a1.length) (
  j2 false)))
  else
  j1
def Qi(self:Int->(List An)->Option Bool)(p_i:Int)(p_a1:List An):Option Bool:=
  Fm (some true) (λj1=>
  Hr p_a1 p_i self j1 (((p_a1.length:Int)-(W (p_i+1))).toNat+2) (W (p_i+1)))
def Jp:Nat->Int->(List An)->Option Bool
  |0,_,_=>none
  |m+1,p_i,p_a1=>Qi (Jp m) p_i p_a1
def Kh(p_at:Int)(j1:(List An)->Option (List Int)):List An->Nat->(List An)->Option (List Int)
  |[],_,x1=>j1 x1
  |y1::ys1,i1,x1=>Fm (fun(x2:List An)=>
  Kh p_at j1 ys1 (i1+1) x2) (λj2=>
  Fm (fun(x3:List An)=>
  j2 x3) (λj3=>
  if decide (y1.At<=p_at) then
  Chk (Ok x1.length) (
  j3 (x1++[y1]))
  else
  j3 x1))
def Iz(x1:List An)(j4:(List Int)->Option (List Int)):Nat->(List Int)->Int->Option (List Int)
  |0,_,_=>none
  |m1+1,x4,x5=>if decide (x5<(x1.length:Int)) then
  Fm (fun(x6:List Int)=>
  Iz x1 j4 m1 x6 (W (x5+1))) (λj5=>
  Option.bind (Jp 16 x5 x1) (λr1=>
  Fm (fun(x7:List Int)=>
  j5 x7) (λj6=>
  if r1 then
  Chk (Ok x4.length) (
  j6 (x4++[x5]))
  else
  j6 x4)))
  else
  j4 x4
def Qa(p_l:List An)(p_at:Int):Option (List Int):=
  Fm (fun(x1:List An)=>
  Fm (fun(x4:List Int)=>
  some x4) (λj4=>
  Iz x1 j4 (((x1.length:Int)-0).toNat+2) ([]:List Int) 0)) (λj1=>
  Kh p_at j1 p_l 0 ([]:List An))
def Nb(p_l:List An)(j1:(List An)->Option (List An)):List Int->Nat->(List An)->Option (List An)
  |[],_,x1=>j1 x1
  |y1::ys1,i1,x1=>Chk (inB y1 p_l.length) (
  Chk (Ok x1.length) (
  Nb p_l j1 ys1 (i1+1) (x1++[(nth p_l y1)])))
def Vn(p_l:List An)(p_at:Int):Option (List An):=
  Option.bind (Qa p_l p_at) (λr1=>
  Fm (fun(x1:List An)=>
  some x1) (λj1=>
  Nb p_l j1 r1 0 ([]:List An)))
def Kj(p_o:An)(p_a1:ByteArray)(p_a2:An):Bool:=
  (((decide (p_o.Race=p_a1)) && (decide (p_o.Who=p_a2.Who))) && ((decide (p_o.Kind=1))||(decide (p_o.Kind=2))))
def Gd(p_f_0:ByteArray)(p_f_1:An)(j1:Int):List An->Nat->Int
  |[],_=>j1
  |y1::ys1,i1=>if(Kj y1 p_f_0 p_f_1) then
  (i1:Int)
  else
  Gd p_f_0 p_f_1 j1 ys1 (i1+1)
def Mh(p_s:List An)(p_f_0:ByteArray)(p_f_1:An):Int:=
  Fm ((-1)) (λj1=>
  Gd p_f_0 p_f_1 j1 p_s 0)
def Hd(p_s:List An)(p_f_0:ByteArray)(p_f_1:An):Bool:=
  decide (0<=(Mh p_s p_f_0 p_f_1))
def Uw(p_a:An)(p_b:An):Int:=
  (Mx p_a.Who p_b.Who)
open Classical in
def Jl(p_x:List An):Option (List An):=if BH Uw p_x/\p_x.length<4611686018427387904 then some (Pa Uw p_x) else none
def Ls(r1:(List An))(p_race:ByteArray)(j1:(List An)->Option (List An)):List An->Nat->(List An)->Option (List An)
  |[],_,x1=>j1 x1
  |y1::ys1,i1,x1=>Fm (fun(x2:List An)=>
  Ls r1 p_race j1 ys1 (i1+1) x2) (λj2=>
  Chk (Yt (W ((i1:Int)+1)) (r1.length:Int) r1.length) (
  Fm (fun(x3:List An)=>
  j2 x3) (λj3=>
  if(((decide (y1.Kind=1)) && (decide (y1.Race=p_race))) && (!(Hd (cut r1 (W ((i1:Int)+1)) r1.length) p_race y1))) then
  Chk (Ok x1.length) (
  j3 (x1++[y1]))
  else
  j3 x1)))
def Sd(p_l:List An)(p_race:ByteArray)(p_at:Int):Option (List An):=
  Option.bind (Vn p_l p_at) (λr1=>
  Fm (fun(x1:List An)=>
  Option.bind (Jl x1) (λr2=>
  some r2)) (λj1=>
  Ls r1 p_race j1 r1 0 ([]:List An)))
def Nk(p_p:Lc)(p_l:List An)(p_race:ByteArray)(p_at:Int):Option Int:=
  if !((Mg p_p.Races p_race).2) then
  some 8
  else
  Option.bind (Sd p_l p_race p_at) (λr1=>
  if decide (300<(r1.length:Int)) then
  some 2
  else
  some 0)
def Ml(j1:(List Ee)->Option (List Ee)):List An->Nat->(List Ee)->Option (List Ee)
  |[],_,x1=>j1 x1
  |y1::ys1,i1,x1=>Chk (Ok x1.length) (
  Ml j1 ys1 (i1+1) (x1++[(Ee.mk y1.Who y1.Time)]))
def Qr(p_l:List An)(p_race:ByteArray)(p_at:Int):Option (List Ee):=
  Option.bind (Sd p_l p_race p_at) (λr1=>
  Fm (fun(x1:List Ee)=>
  some x1) (λj1=>
  Ml j1 r1 0 ([]:List Ee)))
def Ro(d:An)(race who:ByteArray):Bool:=((decide (d.Kind=3)) && (decide (d.Race=race))) && (decide (d.Who=who))
  def Ow (l:List An) (race who:ByteArray):List Nat->An×Bool
  |[]=>((An.mk Ed 0 0 0 Ed Ed Ed 0 0 Ed 0),false)
  |i::is=>if Ro (nth l (i:Int)) race who then(nth l (i:Int),true) else Ow l race who is
def Xy(l:List An)(race who:ByteArray)(at_:Int):Option (An×Bool):=
  Option.bind (Vn l at_) λf=>some (Ow f race who (Wq f.length))
def Gu(p_x:El):Bool:=
  ((decide (0<p_x.Time)) && (decide (p_x.Fault=0)))
def Nc(p_a:El)(p_b:El):Int:=
  if !decide ((Gu p_a)=(Gu p_b)) then
  if(Gu p_a) then
  (-1)
  else
  1
  else
  (Td (W (p_a.Rank-p_b.Rank)))
def Ew(p_a:Int)(j2:(List El)->Option (List El)):Nat->(List El)->Int->Option (List El)
  |0,_,_=>none
  |m2+1,x3,x4=>Fm (fun(x5:Bool)=>
  if x5 then
  Chk (inB (W (x4-1)) x3.length) (
  Chk (inB x4 x3.length) (
  Chk (inB x4 x3.length) (
  Chk (inB (W (x4-1)) (x3.set x4.toNat (El.mk ((nth x3 (W (x4-1))).Rank) ((nth x3 (W (x4-1))).Who) ((nth x3 (W (x4-1))).Club) ((nth x3 (W (x4-1))).Time) ((nth x3 (W (x4-1))).Fault) ((nth x3 (W (x4-1))).Points))).length) (
  Ew p_a j2 m2 ((x3.set x4.toNat (El.mk ((nth x3 (W (x4-1))).Rank) ((nth x3 (W (x4-1))).Who) ((nth x3 (W (x4-1))).Club) ((nth x3 (W (x4-1))).Time) ((nth x3 (W (x4-1))).Fault) ((nth x3 (W (x4-1))).Points))).set ((W (x4-1)).toNat) (El.mk ((nth x3 x4).Rank) ((nth x3 x4).Who) ((nth x3 x4).Club) ((nth x3 x4).Time) ((nth x3 x4).Fault) ((nth x3 x4).Points))) (W (x4-1))))))
  else
  j2 x3) (λj3=>
  if decide (p_a<x4) then
  Chk (inB x4 x3.length) (
  Chk (inB (W (x4-1)) x3.length) (
  j3 (decide ((Nc (El.mk ((nth x3 x4).Rank) ((nth x3 x4).Who) ((nth x3 x4).Club) ((nth x3 x4).Time) ((nth x3 x4).Fault) ((nth x3 x4).Points)) (El.mk ((nth x3 (W (x4-1))).Rank) ((nth x3 (W (x4-1))).Who) ((nth x3 (W (x4-1))).Club) ((nth x3 (W (x4-1))).Time) ((nth x3 (W (x4-1))).Fault) ((nth x3 (W (x4-1))).Points)))<0))))
  else
  j3 false)
def Fk(p_b:Int)(p_a:Int)(j1:(List El)->Option (List El)):Nat->(List El)->Int->Option (List El)
  |0,_,_=>none
  |m1+1,x1,x2=>if decide (x2<p_b) then
  Fm (fun(x3:List El)=>
  Fk p_b p_a j1 m1 x3 (W (x2+1))) (λj2=>
  Ew p_a j2 ((x2-p_a).toNat+2) x1 x2)
  else
  j1 x1
def Hm(p_data:List El)(p_a:Int)(p_b:Int):Option (List El):=
  Fm (fun(x1:List El)=>
  some x1) (λj1=>
  Fk p_b p_a j1 ((p_b-(W (p_a+1))).toNat+2) p_data (W (p_a+1)))
def Fz(p_n:Int)(j1:(List El)->Int->Option (List El)):Nat->(List El)->Int->Int->Option (List El)
  |0,_,_,_=>none
  |m1+1,x1,x2,x3=>if decide (x3<=p_n) then
  Option.bind (Hm x1 x2 x3) (λr1=>
  Fz p_n j1 m1 r1 x3 (W (x3+20)))
  else
  j1 x1 x2
def Hf(p_n:Int)(j3:Int->Option (List El)):Nat->Int->Int->Option (List El)
  |0,_,_=>none
  |_+1,x5,x6=>if decide (x6<=p_n) then
  none
  else
  j3 x5
def Ga(p_n:Int)(j2:Option (List El)):Nat->Int->Option (List El)
  |0,_=>none
  |m2+1,x4=>if decide (x4<p_n) then
  Fm (fun(x5:Int)=>
  if decide ((W (x5+x4))<p_n) then
  none
  else
  Ga p_n j2 m2 (W (x4*2))) (λj3=>
  Hf p_n j3 ((p_n-(W (2*x4))).toNat+2) 0 (W (2*x4)))
  else
  j2
def Kx(p_data:List El)(p_n:Int):Option (List El):=
  Fm (fun(x1:List El) (x2:Int)=>
  Option.bind (Hm x1 x2 p_n) (λr2=>
  Fm (some r2) (λj2=>
  Ga p_n j2 ((p_n-20).toNat+2) 20))) (λj1=>
  Fz p_n j1 ((p_n-20).toNat+2) p_data 0 20)
def Ip(p_x:List El):Option (List El):=
  Option.bind (Kx p_x (p_x.length:Int)) (λr1=>
  some r1)
def Kz(p_l:List An)(p_race:ByteArray)(p_at:Int)(j1:(List El)->Option (List El)):List An->Nat->(List El)->Option (List El)
  |[],_,x1=>j1 x1
  |y1::ys1,i1,x1=>Fm (fun(x2:List El)=>
  Kz p_l p_race p_at j1 ys1 (i1+1) x2) (λj2=>
  Option.bind (Xy p_l p_race y1.Who p_at) (λr2=>
  Fm (fun(x3:List El)=>
  j2 x3) (λj3=>
  if r2.2 then
  Chk (Ok x1.length) (
  j3 (x1++[(El.mk 0 y1.Who y1.Club r2.1.Time r2.1.Fault (Ky.mk 0 1))]))
  else
  j3 x1)))
def La(x4:List El)(i2:Nat)(j6:(List El)->Option (List El)):List El->Nat->(List El)->Option (List El)
  |[],_,x6=>j6 x6
  |_::ys3,i3,x6=>Fm (fun(x7:List El)=>
  La x4 i2 j6 ys3 (i3+1) x7) (λj7=>
  Chk (inB (i3:Int) x6.length) (
  Fm (fun(x8:List El)=>
  j7 x8) (λj8=>
  if((Gu (El.mk ((nth x6 (i3:Int)).Rank) ((nth x6 (i3:Int)).Who) ((nth x6 (i3:Int)).Club) ((nth x6 (i3:Int)).Time) ((nth x6 (i3:Int)).Fault) ((nth x6 (i3:Int)).Points))) && (decide (((nth x6 (i3:Int)).Time)<((nth x4 (i2:Int)).Time)))) then
  Chk (inB (i2:Int) x6.length) (
  Chk (inB (i2:Int) x6.length) (
  j8 (x6.set ((i2:Int).toNat) (El.mk (W (((nth x6 (i2:Int)).Rank)+1)) ((nth x6 (i2:Int)).Who) ((nth x6 (i2:Int)).Club) ((nth x6 (i2:Int)).Time) ((nth x6 (i2:Int)).Fault) ((nth x6 (i2:Int)).Points)))))
  else
  j8 x6)))
def Kl(j4:(List El)->Option (List El)):List El->Nat->(List El)->Option (List El)
  |[],_,x4=>j4 x4
  |_::ys2,i2,x4=>Fm (fun(x5:List El)=>
  Kl j4 ys2 (i2+1) x5) (λj5=>
  Chk (inB (i2:Int) x4.length) (
  if !(Gu (El.mk ((nth x4 (i2:Int)).Rank) ((nth x4 (i2:Int)).Who) ((nth x4 (i2:Int)).Club) ((nth x4 (i2:Int)).Time) ((nth x4 (i2:Int)).Fault) ((nth x4 (i2:Int)).Points))) then
  j5 x4
  else
  Chk (inB (i2:Int) x4.length) (
  Fm (fun(x6:List El)=>
  j5 x6) (λj6=>
  La x4 i2 j6 (x4.set ((i2:Int).toNat) (El.mk 1 ((nth x4 (i2:Int)).Who) ((nth x4 (i2:Int)).Club) ((nth x4 (i2:Int)).Time) ((nth x4 (i2:Int)).Fault) ((nth x4 (i2:Int)).Points))) 0 (x4.set ((i2:Int).toNat) (El.mk 1 ((nth x4 (i2:Int)).Who) ((nth x4 (i2:Int)).Club) ((nth x4 (i2:Int)).Time) ((nth x4 (i2:Int)).Fault) ((nth x4 (i2:Int)).Points)))))))
def Uh(p_p:Lc)(p_l:List An)(p_race:ByteArray)(p_at:Int):Option (List El):=
  Option.bind (Sd p_l p_race p_at) (λr1=>
  Fm (fun(x1:List El)=>
  Fm (fun(x4:List El)=>
  Option.bind (Ip x4) (λr3=>
  some r3)) (λj4=>
  Kl j4 x1 0 x1)) (λj1=>
  Kz p_l p_race p_at j1 r1 0 ([]:List El)))
def Sn(p_s:Ee):Bool:=
  decide (p_s.Time=0)
def Fx(j1:Int):List Ee->Nat->Int
  |[],_=>j1
  |y1::ys1,i1=>if(Sn y1) then
  (i1:Int)
  else
  Fx j1 ys1 (i1+1)
def Gj(p_s:List Ee):Int:=
  Fm ((-1)) (λj1=>
  Fx j1 p_s 0)
def Gz(j1:(List Ee)->Int->Option (List Ee)):Nat->(List Ee)->Int->Int->Option (List Ee)
  |0,_,_,_=>none
  |m1+1,x1,x2,x3=>if decide (x3<(x1.length:Int)) then
  Fm (fun(x4:List Ee) (x5:Int)=>
  Gz j1 m1 x4 x5 (W (x3+1))) (λj2=>
  Chk (inB x3 x1.length) (
  Fm (fun(x6:List Ee) (x7:Int)=>
  j2 x6 x7) (λj3=>
  if !(Sn (nth x1 x3)) then
  Chk (inB x2 x1.length) (
  j3 (x1.set x2.toNat (nth x1 x3)) (W (x2+1)))
  else
  j3 x1 x2)))
  else
  j1 x1 x2
def Lr(p_s:List Ee):Option (List Ee):=
  if decide ((Gj p_s)=(-1)) then
  some p_s
  else
  Fm (fun(x1:List Ee) (x2:Int)=>
  Chk (Yt x2 (x1.length:Int) x1.length) (
  Chk (Yt 0 x2 (clr x1 x2 (x1.length:Int) (Ee.mk Ed 0)).length) (
  some (cut (clr x1 x2 (x1.length:Int) (Ee.mk Ed 0)) (0:Int) x2)))) (λj1=>
  Gz j1 (((p_s.length:Int)-(W ((Gj p_s)+1))).toNat+2) p_s (Gj p_s) (W ((Gj p_s)+1)))
def Qt(p_a:Ee)(p_b:Ee):Int:=
  (Ho p_a.Time p_b.Time)
def Wx(p_l:List Ee):Option (List Ee):=
  Option.bind (Rh p_l) (λr1=>
  Option.bind (Lr r1) (λr2=>
  Option.bind (Hi Qt r2) (λr3=>
  some r3)))
def Nl(y1:Ee)(j3:Int->Option (List Gh)):List Ee->Nat->Int->Option (List Gh)
  |[],_,x5=>j3 x5
  |y2::ys2,i2,x5=>Fm (fun(x6:Int)=>
  Nl y1 j3 ys2 (i2+1) x6) (λj4=>
  Fm (fun(x7:Int)=>
  j4 x7) (λj5=>
  if decide (y2.Time<y1.Time) then
  j5 (W (x5+1))
  else
  j5 x5))
def Ki(p_f:Hn)(p_l:List Ee)(j1:(List Gh)->Option (List Gh)):List Ee->Nat->(List Gh)->Option (List Gh)
  |[],_,x1=>j1 x1
  |y1::ys1,i1,x1=>Fm (fun(x2:List Gh) (x3:Int) (x4:Int)=>
  Ki p_f p_l j1 ys1 (i1+1) x2) (λj2=>
  Fm (fun(x5:Int)=>
  Chk (!decide (p_f.Size=0)) (
  Fm (fun(x8:Int)=>
  Fm (fun(x9:List Gh)=>
  j2 x9 x8 x5) (λj7=>
  if decide ((i1:Int)<(W ((W (p_f.Size*p_f.Many))+p_f.Reserves))) then
  Chk (Ok x1.length) (
  j7 (x1++[(Gh.mk y1.Who x8 x5)]))
  else
  j7 x1)) (λj6=>
  if decide (p_f.Many<(W ((W (Int.tdiv (i1:Int) p_f.Size))+1))) then
  j6 0
  else
  j6 (W ((W (Int.tdiv (i1:Int) p_f.Size))+1))))) (λj3=>
  Nl y1 j3 p_l 0 1))
def Yf(p_f:Hn)(p_l:List Ee):Option (List Gh):=
  Fm (fun(x1:List Gh)=>
  some x1) (λj1=>
  Ki p_f p_l j1 p_l 0 ([]:List Gh))
def Ui(p_f:Hn)(p_l:List Ee):Option (List Gh):=
  Option.bind (Wx p_l) (λr1=>
  Option.bind (Yf p_f r1) (λr2=>
  some r2))
def Km(j1:(List Ee)->Option (List Gh)):List El->Nat->(List Ee)->Option (List Gh)
  |[],_,x1=>j1 x1
  |y1::ys1,i1,x1=>Fm (fun(x2:List Ee)=>
  Km j1 ys1 (i1+1) x2) (λj2=>
  Fm (fun(x3:List Ee)=>
  j2 x3) (λj3=>
  if decide (0<y1.Rank) then
  Chk (Ok x1.length) (
  j3 (x1++[(Ee.mk y1.Who y1.Time)]))
  else
  j3 x1))
def Qu(p_p:Lc)(p_l:List An)(p_race:ByteArray)(p_at:Int):Option (List Gh):=
  Option.bind (Uh p_p p_l p_race p_at) (λr1=>
  Fm (fun(x1:List Ee)=>
  Option.bind (Ui p_p.Final x1) (λr2=>
  some r2)) (λj1=>
  Km j1 r1 0 ([]:List Ee)))
def Kk(p_p:Fq)(j1:(List Int)->Option ((List Int)×Int)):Nat->(List Int)->Int->Option ((List Int)×Int)
  |0,_,_=>none
  |m1+1,x1,x2=>if decide (0<x2) then
  Chk (Ok x1.length) (
  Kk p_p j1 m1 (x1++[Rs x2 (W ((W (p_p.High-p_p.Low))+1))]) (W (x2-(W ((W (p_p.High-p_p.Low))+1)))))
  else
  j1 x1
def Jj(p_p:Fq)(j2:(List Int)->Option ((List Int)×Int)):Nat->(List Int)->Option ((List Int)×Int)
  |0,_=>none
  |m2+1,x3=>Fm (fun(c1:Bool)=>
  Fm (fun(c2:Bool)=>
  if c2 then
  Chk (inB 0 x3.length) (
  Chk (inB 0 x3.length) (
  Chk (inB 1 (x3.set ((0:Int).toNat) (W ((nth x3 0)+1))).length) (
  Chk (inB 1 (x3.set ((0:Int).toNat) (W ((nth x3 0)+1))).length) (
  Jj p_p j2 m2 ((x3.set ((0:Int).toNat) (W ((nth x3 0)+1))).set ((1:Int).toNat) (W ((nth (x3.set ((0:Int).toNat) (W ((nth x3 0)+1))) 1)-1)))))))
  else
  j2 x3) (λj4=>
  if c1 then Chk (inB 1 x3.length) (
  j4 (c1 && (decide (p_p.Least<(nth x3 1))))) else j4 (c1 && true))) (λj3=>
  if(decide (1<(x3.length:Int))) then Chk (inB 0 x3.length) (
  j3 ((decide (1<(x3.length:Int))) && (decide ((nth x3 0)<p_p.Least)))) else j3 ((decide (1<(x3.length:Int))) && true))
def Vo(p_p:Fq)(p_many:Int):Option ((List Int)×Int):=
  Fm (fun(x1:List Int)=>
  if decide (60<(x1.length:Int)) then
  some (([]:List Int),2)
  else
  Option.bind (Pl x1) (λr1=>
  Fm (fun(x3:List Int)=>
  some (x3,0)) (λj2=>
  Jj p_p j2 4611686018427387904 r1))) (λj1=>
  Kk p_p j1 ((p_many-0).toNat+2) ([]:List Int) p_many)
def Qb(p_a:Ee)(p_b:Ee):Int:=
  if !decide ((decide (p_a.Time=0))=(decide (p_b.Time=0))) then
  (Ho p_b.Time p_a.Time)
  else
  (Ho p_a.Time p_b.Time)
def Ns(j1:(List ByteArray)->Option (List ByteArray)):List Ee->Nat->(List ByteArray)->Option (List ByteArray)
  |[],_,x1=>j1 x1
  |y1::ys1,i1,x1=>Chk (Ok x1.length) (
  Ns j1 ys1 (i1+1) (x1++[y1.Who]))
def Vp(p_l:List Ee):Option (List ByteArray):=
  Option.bind (Rh p_l) (λr1=>
  Option.bind (Hi Qb r1) (λr2=>
  Fm (fun(x1:List ByteArray)=>
  some x1) (λj1=>
  Ns j1 r2 0 ([]:List ByteArray))))
def Ks(p_p:Fq)(j1:(List Int)->Option (List Int)):Nat->(List Int)->Int->Int->Option (List Int)
  |0,_,_,_=>none
  |m1+1,x1,x2,x3=>if((decide (p_p.Low<=x2))||(decide (x3<=p_p.High))) then
  Fm (fun(x4:List Int) (x5:Int) (x6:Int)=>
  Ks p_p j1 m1 x4 x5 x6) (λj2=>
  Fm (fun(x7:List Int) (x8:Int)=>
  Fm (fun(x9:List Int) (x10:Int)=>
  j2 x9 x10 x8) (λj4=>
  if decide (p_p.Low<=x2) then
  Chk (Ok x7.length) (
  j4 (x7++[x2]) (W (x2-1)))
  else
  j4 x7 x2)) (λj3=>
  if decide (x3<=p_p.High) then
  Chk (Ok x1.length) (
  j3 (x1++[x3]) (W (x3+1)))
  else
  j3 x1 x3))
  else
  j1 x1
def Px(p_p:Fq):Option (List Int):=
  Fm (fun(x1:List Int)=>
  some x1) (λj1=>
  Ks p_p j1 4611686018427387904 ([W (Int.tdiv (W (p_p.Low+p_p.High)) 2)]:List Int) (W ((W (Int.tdiv (W (p_p.Low+p_p.High)) 2))-1)) (W ((W (Int.tdiv (W (p_p.Low+p_p.High)) 2))+1)))
def Vr(p_a:Eo)(p_b:Eo):Int:=
  (Tl [(Ho p_a.Heat p_b.Heat),(Ho p_a.Lane p_b.Lane)])
open Classical in
def Jv(p_x:List Eo):Option (List Eo):=if BH Vr p_x/\p_x.length<4611686018427387904 then some (Pa Vr p_x) else none
def Lg(p_sizes:List Int)(x1:List (List ByteArray))(j4:Int->Option (List Eo)):Nat->Int->Int->Option (List Eo)
  |0,_,_=>none
  |m2+1,x8,x9=>if decide (x9<(p_sizes.length:Int)) then
  Chk (inB x9 p_sizes.length) (
  Chk (inB x9 x1.length) (
  Lg p_sizes x1 j4 m2 (W (x8+(W ((nth p_sizes x9)-((nth x1 x9).length:Int))))) (W (x9+1))))
  else
  j4 x8
def Hl(p_p:Fq)(p_sizes:List Int)(j1:(List (List ByteArray))->(List ByteArray)->Option (List Eo)):Nat->(List (List ByteArray))->(List ByteArray)->Int->Option (List Eo)
  |0,_,_,_=>none
  |m1+1,x1,x2,x3=>if((decide (0<(x2.length:Int))) && (decide (2<=(Rs p_p.Circles (p_sizes.length:Int))))) then
  Fm (fun(x4:List (List ByteArray)) (x5:List ByteArray) (x6:Int)=>
  Hl p_p p_sizes j1 m1 x4 x5 (W (x6-1))) (λj2=>
  Fm (fun(x7:Int)=>
  Fm (fun(x8:Int)=>
  if decide (x8=0) then
  j1 x1 x2
  else
  Chk (inB x7 x1.length) (
  Chk (inB x7 p_sizes.length) (
  Fm (fun(x10:List (List ByteArray)) (x11:List ByteArray)=>
  j2 x10 x11 x7) (λj5=>
  if decide (((nth x1 x7).length:Int)<(nth p_sizes x7)) then
  Chk (inB x7 x1.length) (
  Chk (inB 0 x2.length) (
  Chk (Ok (nth x1 x7).length) (
  Chk (Yt 1 (x2.length:Int) x2.length) (
  j5 (x1.set x7.toNat ((nth x1 x7)++[(nth x2 0)])) (cut x2 1 x2.length)))))
  else
  j5 x1 x2)))) (λj4=>
  Lg p_sizes x1 j4 (((p_sizes.length:Int)-(W ((p_sizes.length:Int)-(Rs p_p.Circles (p_sizes.length:Int))))).toNat+2) 0 (W ((p_sizes.length:Int)-(Rs p_p.Circles (p_sizes.length:Int)))))) (λj3=>
  if decide (x3<(W ((p_sizes.length:Int)-(Rs p_p.Circles (p_sizes.length:Int))))) then
  j3 (W ((p_sizes.length:Int)-1))
  else
  j3 x3))
  else
  j1 x1 x2
def Nd(x14:Int)(p_sizes:List Int)(j7:(List (List ByteArray))->(List ByteArray)->Option (List Eo)):Nat->(List (List ByteArray))->(List ByteArray)->Option (List Eo)
  |0,_,_=>none
  |m4+1,x15,x16=>Chk (inB x14 x15.length) (
  Chk (inB x14 p_sizes.length) (
  if decide (((nth x15 x14).length:Int)<(nth p_sizes x14)) then
  Chk (inB x14 x15.length) (
  Chk (inB 0 x16.length) (
  Chk (Ok (nth x15 x14).length) (
  Chk (Yt 1 (x16.length:Int) x16.length) (
  Nd x14 p_sizes j7 m4 (x15.set x14.toNat ((nth x15 x14)++[(nth x16 0)])) (cut x16 1 x16.length)))))
  else
  j7 x15 x16))
def Ju(p_sizes:List Int)(j6:(List (List ByteArray))->Option (List Eo)):Nat->(List (List ByteArray))->(List ByteArray)->Int->Option (List Eo)
  |0,_,_,_=>none
  |m3+1,x12,x13,x14=>if decide (0<=x14) then
  Fm (fun(x15:List (List ByteArray)) (x16:List ByteArray)=>
  Ju p_sizes j6 m3 x15 x16 (W (x14-1))) (λj7=>
  Nd x14 p_sizes j7 (((nth p_sizes x14)-((nth x12 x14).length:Int)).toNat+2) x12 x13)
  else
  j6 x12
def Nf(r1:(List Int))(i5:Nat)(j9:(List Eo)->Option (List Eo)):List ByteArray->Nat->(List Eo)->Option (List Eo)
  |[],_,x18=>j9 x18
  |y2::ys2,i6,x18=>Chk (inB (i6:Int) r1.length) (
  Chk (Ok x18.length) (
  Nf r1 i5 j9 ys2 (i6+1) (x18++[(Eo.mk y2 (W ((i5:Int)+1)) (nth r1 (i6:Int)))])))
def Lh(r1:(List Int))(j8:(List Eo)->Option (List Eo)):List (List ByteArray)->Nat->(List Eo)->Option (List Eo)
  |[],_,x17=>j8 x17
  |y1::ys1,i5,x17=>Fm (fun(x18:List Eo)=>
  Lh r1 j8 ys1 (i5+1) x18) (λj9=>
  Nf r1 i5 j9 y1 0 x17)
def Xe(p_p:Fq)(p_who:List ByteArray)(p_sizes:List Int):Option (List Eo):=
  Option.bind (Px p_p) (λr1=>
  Chk (decide (0<=(p_sizes.length:Int)) && decide ((p_sizes.length:Int)<1073741824)) (
  Fm (fun(x1:List (List ByteArray)) (x2:List ByteArray)=>
  Fm (fun(x12:List (List ByteArray))=>
  Fm (fun(x17:List Eo)=>
  Option.bind (Jv x17) (λr4=>
  some r4)) (λj8=>
  Lh r1 j8 x12 0 ([]:List Eo))) (λj6=>
  Ju p_sizes j6 (((W ((p_sizes.length:Int)-1))-0).toNat+2) x1 x2 (W ((p_sizes.length:Int)-1)))) (λj1=>
  Hl p_p p_sizes j1 4611686018427387904 (List.replicate ((p_sizes.length:Int).toNat) []:List (List ByteArray)) p_who (W ((p_sizes.length:Int)-1)))))
def Tz(p_p:Fq)(p_l:List Ee):Option ((List Eo)×Int):=
  Option.bind (Vo p_p (p_l.length:Int)) (λr1=>
  if !decide (r1.2=0) then
  some (([]:List Eo),r1.2)
  else
  Option.bind (Vp p_l) (λr2=>
  Option.bind (Xe p_p r2 r1.1) (λr3=>
  some (r3,0))))
def Ng(p_s2:List Ee)(j1:Option Bool):List Ee->Nat->Option Bool
  |[],_=>j1
  |y1::ys1,i1=>Chk (inB (i1:Int) p_s2.length) (
  if !decide (y1=(nth p_s2 (i1:Int))) then
  some false
  else
  Ng p_s2 j1 ys1 (i1+1))
def Uj(p_s1:List Ee)(p_s2:List Ee):Option Bool:=
  if !decide ((p_s1.length:Int)=(p_s2.length:Int)) then
  some false
  else
  Fm (some true) (λj1=>
  Ng p_s2 j1 p_s1 0)
def Mm(p_s2:List Eo)(j1:Option Bool):List Eo->Nat->Option Bool
  |[],_=>j1
  |y1::ys1,i1=>Chk (inB (i1:Int) p_s2.length) (
  if !decide (y1=(nth p_s2 (i1:Int))) then
  some false
  else
  Mm p_s2 j1 ys1 (i1+1))
def Tp(p_s1:List Eo)(p_s2:List Eo):Option Bool:=
  if !decide ((p_s1.length:Int)=(p_s2.length:Int)) then
  some false
  else
  Fm (some true) (λj1=>
  Mm p_s2 j1 p_s1 0)
def Mn(p_s2:List Gh)(j1:Option Bool):List Gh->Nat->Option Bool
  |[],_=>j1
  |y1::ys1,i1=>Chk (inB (i1:Int) p_s2.length) (
  if !decide (y1=(nth p_s2 (i1:Int))) then
  some false
  else
  Mn p_s2 j1 ys1 (i1+1))
def Tq(p_s1:List Gh)(p_s2:List Gh):Option Bool:=
  if !decide ((p_s1.length:Int)=(p_s2.length:Int)) then
  some false
  else
  Fm (some true) (λj1=>
  Mn p_s2 j1 p_s1 0)
def Zg:Option Bool:=
  Option.bind (Ud (Lc.mk ([(Ek.mk k_r 50 1 50 1 0 0 0)]:List Ek) (Qy.mk ([]:List Int) 1 0) (Hn.mk 1 1 0)) [(An.mk k_s 1 0 1 k_a Ed k_r 5 0 Ed 0)] k_r 0) (λr1=>
  Fm (fun(c1:Bool)=>
  some c1) (λj1=>
  if((decide (r1.2=0)) && (decide ((r1.1.length:Int)=1))) then Chk (inB 0 r1.1.length) (
  j1 (((decide (r1.2=0)) && (decide ((r1.1.length:Int)=1))) && (decide (((nth r1.1 0).Time)=5)))) else j1 (((decide (r1.2=0)) && (decide ((r1.1.length:Int)=1))) && true)))
def Uk(p_l:List Int):Option Bool:=
  Option.bind (Wf p_l 0) (λr1=>
  Option.bind (Wg p_l r1.2) (λr2=>
  Option.bind (Tj p_l r2.2 14) (λr3=>
  Option.bind (Wh p_l r3.2) (λr4=>
  Option.bind (Pk p_l r4.2 [Oc,Oc,Wz,XY]) (λr5=>
  Option.bind (Ud r1.1 r3.1 r5.1 r4.1) (λr6=>
  Option.bind (AJ r1.1 r2.1 r3.1 r5.1 r4.1) (λr7=>
  Option.bind (Vj r1.1 r3.1 r5.1 r4.1) (λr8=>
  Option.bind (Ox r1.1 r3.1 r4.1) (λr9=>
  Option.bind (Qq r1.1) (λr10=>
  Option.bind (Rr r3.1) (λr11=>
  Fm (fun(x1:Int)=>
  Fm (fun(x2:Int)=>
  Fm (fun(x3:List Ee) (x4:List Gh)=>
  Fm (fun(x5:Int) (x6:List Eo)=>
  Fm (fun(x7:Bool)=>
  some x7) (λj5=>
  Option.bind (Sm r1.1) (λr18=>
  Option.bind (Qq r1.1) (λr19=>
  if decide (r18=r19) then
  if decide (r6.2=x1) then
  Option.bind (Uj r6.1 x3) (λr20=>
  if r20 then
  if decide (r7.2=x5) then
  Option.bind (Tp r7.1 x6) (λr21=>
  if r21 then
  if decide (r8.2=x1) then
  Option.bind (Tq r8.1 x4) (λr22=>
  if r22 then
  Option.bind (Zg) (λr23=>
  j5 r23)
  else
  j5 false)
  else
  j5 false
  else
  j5 false)
  else
  j5 false
  else
  j5 false)
  else
  j5 false
  else
  j5 false)))) (λj4=>
  if decide (x2=0) then
  Option.bind (Qr r3.1 r5.1 r4.1) (λr16=>
  Option.bind (Tz r2.1 r16) (λr17=>
  j4 r17.2 r17.1))
  else
  j4 x2 ([]:List Eo))) (λj3=>
  if decide (x1=0) then
  Option.bind (Qr r3.1 r5.1 r4.1) (λr14=>
  Option.bind (Qu r1.1 r3.1 r5.1 r4.1) (λr15=>
  j3 r14 r15))
  else
  j3 ([]:List Ee) ([]:List Gh))) (λj2=>
  if decide ((Jn [r10,(Ij r2.1),r11,(Fw r4.1)])=0) then
  Option.bind (Nk r1.1 r3.1 r5.1 r4.1) (λr13=>
  j2 r13)
  else
  j2 (Jn [r10,(Ij r2.1),r11,(Fw r4.1)]))) (λj1=>
  if decide (r9=0) then
  Option.bind (Nk r1.1 r3.1 r5.1 r4.1) (λr12=>
  j1 r12)
  else
  j1 r9))))))))))))
theorem twin_eqs:True:=by
  have h:=@Kr.eq_def;clear h;have h:=@Kr.eq_1;clear h;have h:=@Kr.eq_2;clear h;have h:=@Lv.eq_def;clear h;have h:=@Lv.eq_1;clear h;have h:=@Lv.eq_2;clear h;have h:=@Ku.eq_def;clear h;have h:=@Ku.eq_1;clear h;have h:=@Ku.eq_2;clear h;have h:=@Mr.eq_def;clear h;have h:=@Mr.eq_1;clear h;have h:=@Mr.eq_2;clear h;have h:=@Lw.eq_def;clear h;have h:=@Lw.eq_1;clear h;have h:=@Lw.eq_2;clear h;have h:=@Ex.eq_def;clear h;have h:=@Ex.eq_1;clear h;have h:=@Ex.eq_2;clear h;have h:=@Fl.eq_def;clear h;have h:=@Fl.eq_1;clear h;have h:=@Fl.eq_2;clear h;have h:=@Gf.eq_def;clear h;have h:=@Gf.eq_1;clear h;have h:=@Gf.eq_2;clear h;have h:=@Hj.eq_def;clear h;have h:=@Hj.eq_1;clear h;have h:=@Hj.eq_2;clear h;have h:=@Gg.eq_def;clear h;have h:=@Gg.eq_1;clear h;have h:=@Gg.eq_2;clear h;have h:=@Pt.eq_def;clear h;have h:=@Pt.eq_1;clear h;have h:=@Pt.eq_2;clear h;have h:=@Gi.eq_def;clear h;have h:=@Gi.eq_1;clear h;have h:=@Gi.eq_2;clear h;have h:=@Lx.eq_def;clear h;have h:=@Lx.eq_1;clear h;have h:=@Lx.eq_2;clear h;have h:=@Nz.eq_def;clear h;have h:=@Nz.eq_1;clear h;have h:=@Nz.eq_2;clear h;have h:=@Ou.eq_def;clear h;have h:=@Ou.eq_1;clear h;have h:=@Ou.eq_2;clear h;have h:=@Ji.eq_def;clear h;have h:=@Ji.eq_1;clear h;have h:=@Ji.eq_2;clear h;have h:=@Lj.eq_def;clear h;have h:=@Lj.eq_1;clear h;have h:=@Lj.eq_2;clear h;have h:=@Mz.eq_def;clear h;have h:=@Mz.eq_1;clear h;have h:=@Mz.eq_2;clear h;have h:=@Ol.eq_def;clear h;have h:=@Ol.eq_1;clear h;have h:=@Ol.eq_2;clear h;have h:=@Ql.eq_def;clear h;have h:=@Ql.eq_1;clear h;have h:=@Ql.eq_2;clear h;have h:=@Gb.eq_def;clear h;have h:=@Gb.eq_1;clear h;have h:=@Gb.eq_2;clear h;have h:=@Nw.eq_def;clear h;have h:=@Nw.eq_1;clear h;have h:=@Nw.eq_2;clear h;have h:=@Ov.eq_def;clear h;have h:=@Ov.eq_1;clear h;have h:=@Ov.eq_2;clear h;have h:=@Pm.eq_def;clear h;have h:=@Pm.eq_1;clear h;have h:=@Pm.eq_2;clear h;have h:=@Nj.eq_def;clear h;have h:=@Nj.eq_1;clear h;have h:=@Nj.eq_2;clear h;have h:=@Pu.eq_def;clear h;have h:=@Pu.eq_1;clear h;have h:=@Pu.eq_2;clear h;have h:=@Ge.eq_def;clear h;have h:=@Ge.eq_1;clear h;have h:=@Ge.eq_2;clear h;have h:=@Gp.eq_def;clear h;have h:=@Gp.eq_1;clear h;have h:=@Gp.eq_2;clear h;have h:=@Ia.eq_def;clear h;have h:=@Ia.eq_1;clear h;have h:=@Ia.eq_2;clear h;have h:=@Iw.eq_def;clear h;have h:=@Iw.eq_1;clear h;have h:=@Iw.eq_2;clear h;have h:=@Ib.eq_def;clear h;have h:=@Ib.eq_1;clear h;have h:=@Ib.eq_2;clear h;have h:=@Iy.eq_def;clear h;have h:=@Iy.eq_1;clear h;have h:=@Iy.eq_2;clear h;have h:=@Ic.eq_def;clear h;have h:=@Ic.eq_1;clear h;have h:=@Ic.eq_2;clear h;have h:=@Hw.eq_def;clear h;have h:=@Hw.eq_1;clear h;have h:=@Hw.eq_2;clear h;have h:=@Iq.eq_def;clear h;have h:=@Iq.eq_1;clear h;have h:=@Iq.eq_2;clear h;have h:=@Gq.eq_def;clear h;have h:=@Gq.eq_1;clear h;have h:=@Gq.eq_2;clear h;have h:=@Nu.eq_def;clear h;have h:=@Nu.eq_1;clear h;have h:=@Nu.eq_2;clear h;have h:=@Po.eq_def;clear h;have h:=@Po.eq_1;clear h;have h:=@Po.eq_2;clear h;have h:=@Pp.eq_def;clear h;have h:=@Pp.eq_1;clear h;have h:=@Pp.eq_2;clear h;have h:=@Qm.eq_def;clear h;have h:=@Qm.eq_1;clear h;have h:=@Qm.eq_2;clear h;have h:=@Ri.eq_def;clear h;have h:=@Ri.eq_1;clear h;have h:=@Ri.eq_2;clear h;have h:=@Pe.eq_def;clear h;have h:=@Pe.eq_1;clear h;have h:=@Pe.eq_2;clear h;have h:=@Rj.eq_def;clear h;have h:=@Rj.eq_1;clear h;have h:=@Rj.eq_2;clear h;have h:=@Pw.eq_def;clear h;have h:=@Pw.eq_1;clear h;have h:=@Pw.eq_2;clear h;have h:=@Qz.eq_def;clear h;have h:=@Qz.eq_1;clear h;have h:=@Qz.eq_2;clear h;have h:=@Kv.eq_def;clear h;have h:=@Kv.eq_1;clear h;have h:=@Kv.eq_2;clear h;have h:=@Ff.eq_def;clear h;have h:=@Ff.eq_1;clear h;have h:=@Ff.eq_2;clear h;have h:=@Fu.eq_def;clear h;have h:=@Fu.eq_1;clear h;have h:=@Fu.eq_2;clear h;have h:=@Gr.eq_def;clear h;have h:=@Gr.eq_1;clear h;have h:=@Gr.eq_2;clear h;have h:=@Hx.eq_def;clear h;have h:=@Hx.eq_1;clear h;have h:=@Hx.eq_2;clear h;have h:=@Gs.eq_def;clear h;have h:=@Gs.eq_1;clear h;have h:=@Gs.eq_2;clear h;have h:=@Rb.eq_def;clear h;have h:=@Rb.eq_1;clear h;have h:=@Rb.eq_2;clear h;have h:=@Qf.eq_def;clear h;have h:=@Qf.eq_1;clear h;have h:=@Qf.eq_2;clear h;have h:=@Qg.eq_def;clear h;have h:=@Qg.eq_1;clear h;have h:=@Qg.eq_2;clear h;have h:=@Om.eq_def;clear h;have h:=@Om.eq_1;clear h;have h:=@Om.eq_2;clear h;have h:=@Gm.eq_def;clear h;have h:=@Gm.eq_1;clear h;have h:=@Gm.eq_2;clear h;have h:=@Hk.eq_def;clear h;have h:=@Hk.eq_1;clear h;have h:=@Hk.eq_2;clear h;have h:=@Sj.eq_def;clear h;have h:=@Sj.eq_1;clear h;have h:=@Sj.eq_2;clear h;have h:=@Qh.eq_def;clear h;have h:=@Qh.eq_1;clear h;have h:=@Qh.eq_2;clear h;have h:=@Na.eq_def;clear h;have h:=@Na.eq_1;clear h;have h:=@Na.eq_2;clear h;have h:=@Kf.eq_def;clear h;have h:=@Kf.eq_1;clear h;have h:=@Kf.eq_2;clear h;have h:=@Kw.eq_def;clear h;have h:=@Kw.eq_1;clear h;have h:=@Kw.eq_2;clear h;have h:=@Lk.eq_def;clear h;have h:=@Lk.eq_1;clear h;have h:=@Lk.eq_2;clear h;have h:=@Nx.eq_def;clear h;have h:=@Nx.eq_1;clear h;have h:=@Nx.eq_2;clear h;have h:=@Fj.eq_def;clear h;have h:=@Fj.eq_1;clear h;have h:=@Fj.eq_2;clear h;have h:=@Jf.eq_def;clear h;have h:=@Jf.eq_1;clear h;have h:=@Jf.eq_2;clear h;have h:=@Kg.eq_def;clear h;have h:=@Kg.eq_1;clear h;have h:=@Kg.eq_2;clear h;have h:=@Ma.eq_def;clear h;have h:=@Ma.eq_1;clear h;have h:=@Ma.eq_2;clear h;have h:=@Hr.eq_def;clear h;have h:=@Hr.eq_1;clear h;have h:=@Hr.eq_2;clear h;have h:=@Kh.eq_def;clear h;have h:=@Kh.eq_1;clear h;have h:=@Kh.eq_2;clear h;have h:=@Iz.eq_def;clear h;have h:=@Iz.eq_1;clear h;have h:=@Iz.eq_2;clear h;have h:=@Nb.eq_def;clear h;have h:=@Nb.eq_1;clear h;have h:=@Nb.eq_2;clear h;have h:=@Gd.eq_def;clear h;have h:=@Gd.eq_1;clear h;have h:=@Gd.eq_2;clear h;have h:=@Ls.eq_def;clear h;have h:=@Ls.eq_1;clear h;have h:=@Ls.eq_2;clear h;have h:=@Ml.eq_def;clear h;have h:=@Ml.eq_1;clear h;have h:=@Ml.eq_2;clear h;have h:=@Ow.eq_def;clear h;have h:=@Ow.eq_1;clear h;have h:=@Ow.eq_2;clear h;have h:=@Ew.eq_def;clear h;have h:=@Ew.eq_1;clear h;have h:=@Ew.eq_2;clear h;have h:=@Fk.eq_def;clear h;have h:=@Fk.eq_1;clear h;have h:=@Fk.eq_2;clear h;have h:=@Fz.eq_def;clear h;have h:=@Fz.eq_1;clear h;have h:=@Fz.eq_2;clear h;have h:=@Hf.eq_def;clear h;have h:=@Hf.eq_1;clear h;have h:=@Hf.eq_2;clear h;have h:=@Ga.eq_def;clear h;have h:=@Ga.eq_1;clear h;have h:=@Ga.eq_2;clear h;have h:=@Kz.eq_def;clear h;have h:=@Kz.eq_1;clear h;have h:=@Kz.eq_2;clear h;have h:=@La.eq_def;clear h;have h:=@La.eq_1;clear h;have h:=@La.eq_2;clear h;have h:=@Kl.eq_def;clear h;have h:=@Kl.eq_1;clear h;have h:=@Kl.eq_2;clear h;have h:=@Fx.eq_def;clear h;have h:=@Fx.eq_1;clear h;have h:=@Fx.eq_2;clear h;have h:=@Gz.eq_def;clear h;have h:=@Gz.eq_1;clear h;have h:=@Gz.eq_2;clear h;have h:=@Nl.eq_def;clear h;have h:=@Nl.eq_1;clear h;have h:=@Nl.eq_2;clear h;have h:=@Ki.eq_def;clear h;have h:=@Ki.eq_1;clear h;have h:=@Ki.eq_2;clear h;have h:=@Km.eq_def;clear h;have h:=@Km.eq_1;clear h;have h:=@Km.eq_2;clear h;have h:=@Kk.eq_def;clear h;have h:=@Kk.eq_1;clear h;have h:=@Kk.eq_2;clear h;have h:=@Jj.eq_def;clear h;have h:=@Jj.eq_1;clear h;have h:=@Jj.eq_2;clear h;have h:=@Ns.eq_def;clear h;have h:=@Ns.eq_1;clear h;have h:=@Ns.eq_2;clear h;have h:=@Ks.eq_def;clear h;have h:=@Ks.eq_1;clear h;have h:=@Ks.eq_2;clear h;have h:=@Lg.eq_def;clear h;have h:=@Lg.eq_1;clear h;have h:=@Lg.eq_2;clear h;have h:=@Hl.eq_def;clear h;have h:=@Hl.eq_1;clear h;have h:=@Hl.eq_2;clear h;have h:=@Nd.eq_def;clear h;have h:=@Nd.eq_1;clear h;have h:=@Nd.eq_2;clear h;have h:=@Ju.eq_def;clear h;have h:=@Ju.eq_1;clear h;have h:=@Ju.eq_2;clear h;have h:=@Nf.eq_def;clear h;have h:=@Nf.eq_1;clear h;have h:=@Nf.eq_2;clear h;have h:=@Lh.eq_def;clear h;have h:=@Lh.eq_1;clear h;have h:=@Lh.eq_2;clear h;have h:=@Ng.eq_def;clear h;have h:=@Ng.eq_1;clear h;have h:=@Ng.eq_2;clear h;have h:=@Mm.eq_def;clear h;have h:=@Mm.eq_1;clear h;have h:=@Mm.eq_2;clear h;have h:=@Mn.eq_def;clear h;have h:=@Mn.eq_1;clear h;have h:=@Mn.eq_2;clear h;have h:=@Hp.eq_def;clear h;have h:=@Hp.eq_1;clear h;have h:=@Hp.eq_2;clear h;have h:=@Jp.eq_def;clear h;have h:=@Jp.eq_1;clear h;have h:=@Jp.eq_2;clear h;trivial
end
end Go.Proofs.YtbicihdhkkjigaaGreatDoor
