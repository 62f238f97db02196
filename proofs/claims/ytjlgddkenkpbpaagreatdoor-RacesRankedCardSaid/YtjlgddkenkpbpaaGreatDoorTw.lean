/- The Go functions as plain Lean functions,by program. -/
import Derived.Test.YtjlgddkenkpbpaaGreatDoorBase
namespace Go.Proofs.YtjlgddkenkpbpaaGreatDoor
open Go
noncomputable section
structure Abt where
  L:List Int
  at_:Int
  deriving DecidableEq,Inhabited
structure Eh where
  Key:ByteArray
  Metres:Int
  Stroke:Int
  Course:Int
  Legs:Int
  Sex:Int
  Young:Int
  Old:Int
  deriving DecidableEq,Inhabited
structure Jn where
  Points:List Int
  Relay:Int
  Most:Int
  deriving DecidableEq,Inhabited
structure Qq where
  Size:Int
  Many:Int
  Reserves:Int
  deriving DecidableEq,Inhabited
structure Ir where
  Races:List Eh
  Table:Jn
  Final:Qq
  deriving DecidableEq,Inhabited
structure Dy where
  Site:ByteArray
  No:Int
  At:Int
  Kind:Int
  Who:ByteArray
  Club:ByteArray
  Race:ByteArray
  Time:Int
  Fault:Int
  Of:ByteArray
  Other:Int
  deriving DecidableEq,Inhabited
structure Nn where
  p_:Ir
  deeds_:List Dy
  deriving DecidableEq,Inhabited
structure Fb where
  site_:ByteArray
  no_:Int
  deriving DecidableEq,Inhabited
structure Eb where
  Num:Int
  Den:Int
  deriving DecidableEq,Inhabited
structure Ec where
  Rank:Int
  Who:ByteArray
  Club:ByteArray
  Time:Int
  Fault:Int
  Points:Eb
  deriving DecidableEq,Inhabited
structure Jt where
  Who:ByteArray
  Time:Int
  deriving DecidableEq,Inhabited
structure Jm where
  Who:ByteArray
  Fault:Int
  Reports:List ByteArray
  deriving DecidableEq,Inhabited
structure Ed where
  Who:ByteArray
  Rank:Int
  Time:Int
  Fault:Int
  deriving DecidableEq,Inhabited
structure Ea where
  Race:ByteArray
  Who:ByteArray
  Club:ByteArray
  Rank:Int
  Relay:Bool
  deriving DecidableEq,Inhabited
structure Ft where
  race_:ByteArray
  who_:ByteArray
  deriving DecidableEq,Inhabited
structure Et where
  Key:ByteArray
  Points:Eb
  deriving DecidableEq,Inhabited
structure Ei where
  x_:Ea
  points_:Eb
  deriving DecidableEq,Inhabited
structure Ig where
  Name:ByteArray
  Value:ByteArray
  deriving DecidableEq,Inhabited
structure Hd where
  is_:Bool
  e_:Int
  deriving DecidableEq,Inhabited
def An:ByteArray:=⟨#[]⟩
def Oc:ByteArray:=⟨#[114,97]⟩
def Xj:ByteArray:=⟨#[114,98]⟩
def BF:ByteArray:=⟨#[114,99]⟩
def Sm:ByteArray:=⟨#[115,97]⟩
def Qr:ByteArray:=⟨#[98,108,117,101]⟩
def LH:ByteArray:=⟨#[115,98]⟩
def CM:ByteArray:=⟨#[97,110,110]⟩
def MJ:ByteArray:=⟨#[98,101,97]⟩
def MK:ByteArray:=⟨#[99,105,100]⟩
def ML:ByteArray:=⟨#[100,97,110]⟩
def XO:ByteArray:=⟨#[114,122]⟩
def Zz:ByteArray:=⟨#[114,101,100]⟩
def k_A:ByteArray:=⟨#[65]⟩
def k_zz:ByteArray:=⟨#[122,122]⟩
def Ib:ByteArray:=⟨#[97,98,99,100,101,102,103,104,105,106,107,108,109,110,111,112,113,114,115,116,117,118,119,120,121,122,48,49,50,51,52,53,54,55,56,57,45,95]⟩
def Rz:ByteArray:=⟨#[32]⟩
def Jk:ByteArray:=⟨#[97,98,99,100,101,102,103,104,105,106,107,108,109,110,111,112,113,114,115,116,117,118,119,120,121,122]⟩
def k_r:ByteArray:=⟨#[114]⟩
def k_s:ByteArray:=⟨#[115]⟩
def k_a:ByteArray:=⟨#[97]⟩
def Ue(p_x:Int)(p_n:Int):Option Int:=
  if decide (p_n<1) then
  some 0
  else
  Chk (!decide (p_n=0)) (
  Fj (fun(x1:Int)=>
  some x1) (λj1=>
  if decide ((Int.tmod p_x p_n)<0) then
  j1 (W ((Int.tmod p_x p_n)+p_n))
  else
  j1 (Int.tmod p_x p_n)))
def Sj(p_s_L:List Int)(p_s_at:Int)(p_n:Int):Option (Int×Int):=
  if decide ((p_s_L.length:Int)=0) then
  Option.bind (Ue (W ((W (p_s_at+1))*7919)) p_n) (λr1=>
  some (r1,W (p_s_at+1)))
  else
  Chk (!decide ((p_s_L.length:Int)=0)) (
  Chk (!decide ((p_s_L.length:Int)=0)) (
  Chk (inB (Int.tmod (W ((W (p_s_at+1))-1)) (p_s_L.length:Int)) p_s_L.length) (
  Option.bind (Ue (nth p_s_L (Int.tmod (W ((W (p_s_at+1))-1)) (p_s_L.length:Int))) 1073741824) (λr2=>
  Option.bind (Ue (W (r2+(W ((W (Int.tdiv (W ((W (p_s_at+1))-1)) (p_s_L.length:Int)))*(W (7919+(Int.tmod (W ((W (p_s_at+1))-1)) (p_s_L.length:Int)))))))) p_n) (λr3=>
  some (r3,W (p_s_at+1)))))))
def Rp(p_s_L:List Int)(p_s_at:Int)(p_n:Int):Option (Bool×Int):=
  Option.bind (Sj p_s_L p_s_at p_n) (λr1=>
  some (decide (r1.1=0),r1.2))
def Ke(p_s_L:List Int)(p_s_at:Int)(p_l:List Int):Option (Int×Int):=
  Option.bind (Sj p_s_L p_s_at (p_l.length:Int)) (λr1=>
  Chk (inB r1.1 p_l.length) (
  some ((nth p_l r1.1),r1.2)))
def Tq(p_s_L:List Int)(p_s_at:Int)(p_key:ByteArray):Option (Eh×Int):=
  Option.bind (Ke p_s_L p_s_at [50,100,200]) (λr1=>
  Option.bind (Ke p_s_L r1.2 [1,2,3,4]) (λr2=>
  Option.bind (Ke p_s_L r2.2 [25,50]) (λr3=>
  Option.bind (Ke p_s_L r3.2 [1,1,1,4]) (λr4=>
  Option.bind (Ke p_s_L r4.2 [0,1,2]) (λr5=>
  Option.bind (Ke p_s_L r5.2 [0,0,5,10]) (λr6=>
  Option.bind (Ke p_s_L r6.2 [0,5,90]) (λr7=>
  some ((Eh.mk p_key r1.1 r2.1 r3.1 r4.1 r5.1 r6.1 (W (r6.1+r7.1))),r7.2))))))))
def Km(p_s_L:List Int)(j1:(List Eh)->Int->Option ((List Eh)×Int)):List ByteArray->Nat->(List Eh)->Int->Option ((List Eh)×Int)
  |[],_,x1,x2=>j1 x1 x2
  |y1::ys1,i1,x1,x2=>Fj (fun(x3:List Eh) (x4:Int)=>
  Km p_s_L j1 ys1 (i1+1) x3 x4) (λj2=>
  Option.bind (Rp p_s_L x2 6) (λr1=>
  Fj (fun(x5:List Eh) (x6:Int)=>
  j2 x5 x6) (λj3=>
  if !r1.1 then
  Option.bind (Tq p_s_L r1.2 y1) (λr2=>
  Chk (Qi x1.length) (
  j3 (x1++[r2.1]) r2.2))
  else
  j3 x1 r1.2)))
def Sq(p_s_L:List Int)(p_s_at:Int):Option ((List Eh)×Int):=
  Fj (fun(x1:List Eh) (x2:Int)=>
  some (x1,x2)) (λj1=>
  Km p_s_L j1 ([Oc,Xj,BF]:List ByteArray) 0 ([]:List Eh) p_s_at)
def Pi(p_s_L:List Int)(p_s_at:Int)(p_low:Int)(p_high:Int):Option (Int×Int):=
  if decide (p_high<p_low) then
  some (p_low,p_s_at)
  else
  Option.bind (Sj p_s_L p_s_at (W ((W (p_high-p_low))+1))) (λr1=>
  some (W (p_low+r1.1),r1.2))
def Ly(r4:Int×Int)(p_s_L:List Int)(j1:(List Int)->Int->Option (Jn×Int)):Nat->(List Int)->Int->Int->Int->Option (Jn×Int)
  |0,_,_,_,_=>none
  |m1+1,x1,x2,x3,x4=>if decide (x4<r4.1) then
  Chk (Qi x1.length) (
  Option.bind (Ke p_s_L x2 [0,1,2,3]) (λr5=>
  Ly r4 p_s_L j1 m1 (x1++[x3]) r5.2 (OC 0 (W (x3-r5.1))) (W (x4+1))))
  else
  j1 x1 x2
def Tm(p_s_L:List Int)(p_s_at:Int):Option (Jn×Int):=
  Option.bind (Ke p_s_L p_s_at [1,2]) (λr1=>
  Option.bind (Ke p_s_L r1.2 [0,0,1,2]) (λr2=>
  Option.bind (Ke p_s_L r2.2 [10,9,7,5]) (λr3=>
  Option.bind (Pi p_s_L r3.2 0 5) (λr4=>
  Fj (fun(x1:List Int) (x2:Int)=>
  some ((Jn.mk x1 r1.1 r2.1),x2)) (λj1=>
  Ly r4 p_s_L j1 ((r4.1-0).toNat+2) ([]:List Int) r4.2 r3.1 0)))))
def Kq(j1:(List Eh)->Option (List Eh)):Nat->(List Eh)->Int->Int->Option (List Eh)
  |0,_,_,_=>none
  |m1+1,x1,x2,x3=>if decide (x2<x3) then
  Chk (inB x3 x1.length) (
  Chk (inB x2 x1.length) (
  Chk (inB x2 x1.length) (
  Chk (inB x3 (x1.set x2.toNat (nth x1 x3)).length) (
  Kq j1 m1 ((x1.set x2.toNat (nth x1 x3)).set x3.toNat (nth x1 x2)) (W (x2+1)) (W (x3-1))))))
  else
  j1 x1
def Ts(p_s:List Eh):Option (List Eh):=
  Fj (fun(x1:List Eh)=>
  some x1) (λj1=>
  Kq j1 (((W ((p_s.length:Int)-1))-0).toNat+2) p_s 0 (W ((p_s.length:Int)-1)))
def Wg(p_s_L:List Int)(p_s_at:Int):Option (Ir×Int):=
  Option.bind (Sq p_s_L p_s_at) (λr1=>
  Option.bind (Tm p_s_L r1.2) (λr2=>
  Option.bind (Pi p_s_L r2.2 1 3) (λr3=>
  Option.bind (Pi p_s_L r3.2 1 2) (λr4=>
  Option.bind (Pi p_s_L r4.2 0 2) (λr5=>
  Option.bind (Ts r1.1) (λr6=>
  some ((Ir.mk r6 r2.1 (Qq.mk r3.1 r4.1 r5.1)),r5.2)))))))
def Ps(p_s_L:List Int)(p_s_at:Int)(p_l:List ByteArray):Option (ByteArray×Int):=
  Option.bind (Sj p_s_L p_s_at (p_l.length:Int)) (λr1=>
  Chk (inB r1.1 p_l.length) (
  some ((nth p_l r1.1),r1.2)))
def Ql(p_s_L:List Int)(p_s_at:Int)(p_low:Int)(p_high:Int):Option (Int×Int):=
  Option.bind (Rp p_s_L p_s_at 12) (λr1=>
  if r1.1 then
  Option.bind (Ke p_s_L r1.2 [W (p_low-1),W (p_high+1),p_low,p_high,(-1099511627776),1099511627776]) (λr2=>
  some (r2.1,r2.2))
  else
  Option.bind (Pi p_s_L r1.2 p_low p_high) (λr3=>
  some (r3.1,r3.2)))
def Uf(p_s_L:List Int)(p_s_at:Int):Option ((List Eh)×Int):=
  Option.bind (Sq p_s_L p_s_at) (λr1=>
  Fj (fun(x1:Int) (x2:Bool)=>
  Fj (fun(x3:List Eh) (x4:Int)=>
  some (x3,x4)) (λj2=>
  if x2 then
  Option.bind (Sj p_s_L x1 (r1.1.length:Int)) (λr3=>
  Chk (inB r3.1 r1.1.length) (
  Option.bind (Ps p_s_L r3.2 [(nth r1.1 r3.1).Key,An,Oc]) (λr4=>
  Option.bind (Ql p_s_L r4.2 1 4) (λr5=>
  Option.bind (Ke p_s_L r5.2 [25,50,33]) (λr6=>
  Option.bind (Ke p_s_L r6.2 [0,1,2,3]) (λr7=>
  j2 ((((r1.1.set r3.1.toNat (Eh.mk r4.1 ((nth r1.1 r3.1).Metres) ((nth r1.1 r3.1).Stroke) ((nth r1.1 r3.1).Course) ((nth r1.1 r3.1).Legs) ((nth r1.1 r3.1).Sex) ((nth r1.1 r3.1).Young) ((nth r1.1 r3.1).Old))).set r3.1.toNat (Eh.mk r4.1 ((nth r1.1 r3.1).Metres) ((nth r1.1 r3.1).Stroke) ((nth r1.1 r3.1).Course) r5.1 ((nth r1.1 r3.1).Sex) ((nth r1.1 r3.1).Young) ((nth r1.1 r3.1).Old))).set r3.1.toNat (Eh.mk r4.1 ((nth r1.1 r3.1).Metres) ((nth r1.1 r3.1).Stroke) r6.1 r5.1 ((nth r1.1 r3.1).Sex) ((nth r1.1 r3.1).Young) ((nth r1.1 r3.1).Old))).set r3.1.toNat (Eh.mk r4.1 ((nth r1.1 r3.1).Metres) ((nth r1.1 r3.1).Stroke) r6.1 r5.1 r7.1 ((nth r1.1 r3.1).Young) ((nth r1.1 r3.1).Old))) r7.2))))))
  else
  j2 r1.1 x1)) (λj1=>
  if(decide (0<(r1.1.length:Int))) then
  Option.bind (Rp p_s_L r1.2 12) (λr2=>
  j1 r2.2 r2.1)
  else
  j1 r1.2 false))
def Wh(p_s:List Int):Option (List Int):=
  Chk (decide ((([]:List Int):List Int).length+p_s.length<1073741824)) (
  some ((([]:List Int):List Int)++p_s))
def Zk(p_s_L:List Int)(p_s_at:Int):Option (Jn×Int):=
  Option.bind (Tm p_s_L p_s_at) (λr1=>
  Option.bind (Rp p_s_L r1.2 12) (λr2=>
  Fj (fun(x1:List Int) (x2:Int) (x3:Int) (x4:Int)=>
  some ((Jn.mk x1 x2 x3),x4)) (λj1=>
  if r2.1 then
  Option.bind (Ql p_s_L r2.2 1 10) (λr3=>
  Option.bind (Ql p_s_L r3.2 0 10) (λr4=>
  Option.bind (Wh r1.1.Points) (λr5=>
  Option.bind (Ql p_s_L r4.2 0 20) (λr6=>
  Chk (Qi r5.length) (
  j1 (r5++[r6.1]) r3.1 r4.1 r6.2)))))
  else
  j1 r1.1.Points r1.1.Relay r1.1.Most r2.2)))
def Wy(p_s_L:List Int)(p_s_at:Int):Option (Ir×Int):=
  Option.bind (Wg p_s_L p_s_at) (λr1=>
  Option.bind (Rp p_s_L r1.2 12) (λr2=>
  Fj (fun(x1:List Int) (x2:Int) (x3:Int) (x4:Int) (x5:Int) (x6:Int) (x7:List Eh) (x8:Int)=>
  some ((Ir.mk x7 (Jn.mk x1 x2 x3) (Qq.mk x4 x5 x6)),x8)) (λj1=>
  if r2.1 then
  Option.bind (Sj p_s_L r2.2 3) (λr3=>
  Fj (fun(x9:List Int) (x10:Int) (x11:Int) (x12:Int) (x13:Int) (x14:Int) (x15:List Eh) (x16:Int)=>
  j1 x9 x10 x11 x12 x13 x14 x15 x16) (λj2=>
  Fj (fun(x17:List Int) (x18:Int) (x19:Int) (x20:Int) (x21:Int) (x22:Int) (x23:List Eh) (x24:Int)=>
  j2 x17 x18 x19 x20 x21 x22 x23 x24) (λj3=>
  if decide (r3.1=0) then
  Option.bind (Uf p_s_L r3.2) (λr4=>
  Chk (decide (r1.1.Races.length+r4.1.length<1073741824)) (
  j3 r1.1.Table.Points r1.1.Table.Relay r1.1.Table.Most r1.1.Final.Size r1.1.Final.Many r1.1.Final.Reserves (r1.1.Races++r4.1) r4.2))
  else
  Fj (fun(x25:List Int) (x26:Int) (x27:Int) (x28:Int) (x29:Int) (x30:Int) (x31:Int)=>
  j3 x25 x26 x27 x28 x29 x30 r1.1.Races x31) (λj4=>
  if decide (r3.1=1) then
  Option.bind (Zk p_s_L r3.2) (λr5=>
  j4 r5.1.Points r5.1.Relay r5.1.Most r1.1.Final.Size r1.1.Final.Many r1.1.Final.Reserves r5.2)
  else
  Option.bind (Ql p_s_L r3.2 1 10) (λr6=>
  Option.bind (Ql p_s_L r6.2 1 5) (λr7=>
  Option.bind (Ql p_s_L r7.2 0 10) (λr8=>
  j4 r1.1.Table.Points r1.1.Table.Relay r1.1.Table.Most r6.1 r7.1 r8.1 r8.2)))))))
  else
  j1 r1.1.Table.Points r1.1.Table.Relay r1.1.Table.Most r1.1.Final.Size r1.1.Final.Many r1.1.Final.Reserves r1.1.Races r2.2)))
def Mp(r1:Int×Int)(j1:(List Dy)->Option ((List Dy)×Int)):Nat->(List Dy)->Int->Option ((List Dy)×Int)
  |0,_,_=>none
  |m1+1,x1,x2=>if decide (x2<r1.1) then
  Chk (Qi x1.length) (
  Mp r1 j1 m1 (x1++[(Dy.mk Sm (W ((W (2*x2))+1)) 0 1 (Utf8.encode (IntKind.wrap .i32 (W (97+x2)))) Qr Oc 0 0 An 0),(Dy.mk Sm (W ((W (2*x2))+2)) 0 3 (Utf8.encode (IntKind.wrap .i32 (W (97+x2)))) An Oc 6000 0 An 0)]) (W (x2+1)))
  else
  j1 x1
def Ye(p_s_L:List Int)(p_s_at:Int):Option ((List Dy)×Int):=
  Option.bind (Pi p_s_L p_s_at 9 12) (λr1=>
  Fj (fun(x1:List Dy)=>
  some (x1,r1.2)) (λj1=>
  Mp r1 j1 ((r1.1-0).toNat+2) ([]:List Dy) 0))
def Lz(r1:Int×Int)(j1:(List Dy)->Option ((List Dy)×Int)):Nat->(List Dy)->Int->Option ((List Dy)×Int)
  |0,_,_=>none
  |m1+1,x1,x2=>if decide (x2<(W (300+r1.1))) then
  Chk (decide ((Utf8.encode (IntKind.wrap .i32 (W (97+(W (Int.tdiv x2 26)))))).size+(Utf8.encode (IntKind.wrap .i32 (W (97+(Int.tmod x2 26))))).size<1073741824)) (
  Chk (Qi x1.length) (
  Lz r1 j1 m1 (x1++[(Dy.mk Sm (W (x2+1)) 0 1 ((Utf8.encode (IntKind.wrap .i32 (W (97+(W (Int.tdiv x2 26))))))++(Utf8.encode (IntKind.wrap .i32 (W (97+(Int.tmod x2 26)))))) An Oc 0 0 An 0)]) (W (x2+1))))
  else
  j1 x1
def Xm(p_s_L:List Int)(p_s_at:Int):Option ((List Dy)×Int):=
  Option.bind (Pi p_s_L p_s_at 0 1) (λr1=>
  Fj (fun(x1:List Dy)=>
  some (x1,r1.2)) (λj1=>
  Lz r1 j1 (((W (300+r1.1))-0).toNat+2) ([]:List Dy) 0))
def Qs(p_n:Int):Int:=
  if decide (p_n<0) then
  (-1)
  else
  if decide (0<p_n) then
  1
  else
  0
def Gm(s t:ByteArray):Int:=Lib.compareBytes s.data.toList t.data.toList
def Ll(p_a:Dy)(p_b:Dy):Int:=
  if !decide (p_a.At=p_b.At) then
  (Qs (W (p_a.At-p_b.At)))
  else
  if !decide (p_a.Site=p_b.Site) then
  (Gm p_a.Site p_b.Site)
  else
  (Qs (W (p_a.No-p_b.No)))
def Ex(p_a:Int)(j2:(List Dy)->Option (List Dy)):Nat->(List Dy)->Int->Option (List Dy)
  |0,_,_=>none
  |m2+1,x3,x4=>Fj (fun(x5:Bool)=>
  if x5 then
  Chk (inB (W (x4-1)) x3.length) (
  Chk (inB x4 x3.length) (
  Chk (inB x4 x3.length) (
  Chk (inB (W (x4-1)) (x3.set x4.toNat (nth x3 (W (x4-1)))).length) (
  Ex p_a j2 m2 ((x3.set x4.toNat (nth x3 (W (x4-1)))).set ((W (x4-1)).toNat) (nth x3 x4)) (W (x4-1))))))
  else
  j2 x3) (λj3=>
  if decide (p_a<x4) then
  Chk (inB x4 x3.length) (
  Chk (inB (W (x4-1)) x3.length) (
  j3 (decide ((Ll (nth x3 x4) (nth x3 (W (x4-1))))<0))))
  else
  j3 false)
def Fk(p_b:Int)(p_a:Int)(j1:(List Dy)->Option (List Dy)):Nat->(List Dy)->Int->Option (List Dy)
  |0,_,_=>none
  |m1+1,x1,x2=>if decide (x2<p_b) then
  Fj (fun(x3:List Dy)=>
  Fk p_b p_a j1 m1 x3 (W (x2+1))) (λj2=>
  Ex p_a j2 ((x2-p_a).toNat+2) x1 x2)
  else
  j1 x1
def Hy(p_data:List Dy)(p_a:Int)(p_b:Int):Option (List Dy):=
  Fj (fun(x1:List Dy)=>
  some x1) (λj1=>
  Fk p_b p_a j1 ((p_b-(W (p_a+1))).toNat+2) p_data (W (p_a+1)))
def Gh(p_n:Int)(j1:(List Dy)->Int->Option (List Dy)):Nat->(List Dy)->Int->Int->Option (List Dy)
  |0,_,_,_=>none
  |m1+1,x1,x2,x3=>if decide (x3<=p_n) then
  Option.bind (Hy x1 x2 x3) (λr1=>
  Gh p_n j1 m1 r1 x3 (W (x3+20)))
  else
  j1 x1 x2
def Hr(p_n:Int)(j3:Int->Option (List Dy)):Nat->Int->Int->Option (List Dy)
  |0,_,_=>none
  |_+1,x5,x6=>if decide (x6<=p_n) then
  none
  else
  j3 x5
def Gi(p_n:Int)(j2:Option (List Dy)):Nat->Int->Option (List Dy)
  |0,_=>none
  |m2+1,x4=>if decide (x4<p_n) then
  Fj (fun(x5:Int)=>
  if decide ((W (x5+x4))<p_n) then
  none
  else
  Gi p_n j2 m2 (W (x4*2))) (λj3=>
  Hr p_n j3 ((p_n-(W (2*x4))).toNat+2) 0 (W (2*x4)))
  else
  j2
def Lg(p_data:List Dy)(p_n:Int):Option (List Dy):=
  Fj (fun(x1:List Dy) (x2:Int)=>
  Option.bind (Hy x1 x2 p_n) (λr2=>
  Fj (some r2) (λj2=>
  Gi p_n j2 ((p_n-20).toNat+2) 20))) (λj1=>
  Gh p_n j1 ((p_n-20).toNat+2) p_data 0 20)
def Iq(p_x:List Dy):Option (List Dy):=
  Option.bind (Lg p_x (p_x.length:Int)) (λr1=>
  some r1)
def Qb(p_many:Int)(p_s_L:List Int)(j1:(List (ByteArray×Int))->(List Dy)->Int->Option ((List Dy)×Int)):Nat->(List (ByteArray×Int))->(List Dy)->Int->Int->Int->Option ((List Dy)×Int)
  |0,_,_,_,_,_=>none
  |m1+1,x1,x2,x3,x4,x5=>if decide (x5<p_many) then
  Option.bind (Ke p_s_L x3 [0,1,5]) (λr1=>
  Option.bind (Ps p_s_L r1.2 [Sm,Sm,LH]) (λr2=>
  Option.bind (Ke p_s_L r2.2 [1,1,1,3,3,3,2,4]) (λr3=>
  Fj (fun(x6:ByteArray) (x7:ByteArray) (x8:Int)=>
  Fj (fun(x9:ByteArray) (x10:Int) (x11:Int) (x12:ByteArray) (x13:Int) (x14:Int)=>
  Option.bind (Rp p_s_L x14 100) (λr12=>
  Fj (fun(x29:ByteArray) (x30:Int) (x31:Int) (x32:ByteArray) (x33:ByteArray) (x34:ByteArray) (x35:Int) (x36:Int) (x37:Int) (x38:Int)=>
  Chk (Qi x2.length) (
  Qb p_many p_s_L j1 m1 (Hv x1 r2.1 (W ((Em x1 r2.1 0)+1))) (x2++[(Dy.mk x29 x30 (W (x4+r1.1)) x31 x32 x33 x34 x35 x36 x12 x37)]) x38 (W (x4+r1.1)) (W (x5+1)))) (λj7=>
  if r12.1 then
  Option.bind (Sj p_s_L r12.2 4) (λr13=>
  Fj (fun(x39:ByteArray) (x40:Int) (x41:Int) (x42:ByteArray) (x43:ByteArray) (x44:ByteArray) (x45:Int) (x46:Int) (x47:Int) (x48:Int)=>
  j7 x39 x40 x41 x42 x43 x44 x45 x46 x47 x48) (λj8=>
  Fj (fun(x49:ByteArray) (x50:Int) (x51:Int) (x52:ByteArray) (x53:ByteArray) (x54:ByteArray) (x55:Int) (x56:Int) (x57:Int) (x58:Int)=>
  j8 x49 x50 x51 x52 x53 x54 x55 x56 x57 x58) (λj9=>
  if decide (r13.1=0) then
  Option.bind (Ps p_s_L r13.2 [An,Sm]) (λr14=>
  Option.bind (Ql p_s_L r14.2 1 9) (λr15=>
  j9 r14.1 r15.1 r3.1 x6 x9 x7 x10 x11 x13 r15.2))
  else
  Fj (fun(x59:Int) (x60:ByteArray) (x61:ByteArray) (x62:ByteArray) (x63:Int) (x64:Int) (x65:Int) (x66:Int)=>
  j9 r2.1 (Em (Hv x1 r2.1 (W ((Em x1 r2.1 0)+1))) r2.1 0) x59 x60 x61 x62 x63 x64 x65 x66) (λj10=>
  if decide (r13.1=1) then
  Option.bind (Ql p_s_L r13.2 1 4) (λr16=>
  j10 r16.1 x6 x9 x7 x10 x11 x13 r16.2)
  else
  Fj (fun(x67:ByteArray) (x68:ByteArray) (x69:ByteArray) (x70:Int) (x71:Int) (x72:Int) (x73:Int)=>
  j10 r3.1 x67 x68 x69 x70 x71 x72 x73) (λj11=>
  if decide (r13.1=2) then
  Option.bind (Ps p_s_L r13.2 [An,CM]) (λr17=>
  Option.bind (Ps p_s_L r17.2 [k_A,Qr]) (λr18=>
  Option.bind (Ps p_s_L r18.2 [An,Oc]) (λr19=>
  j11 r17.1 r18.1 r19.1 x10 x11 x13 r19.2)))
  else
  Option.bind (Ql p_s_L r13.2 0 360000) (λr20=>
  Option.bind (Ql p_s_L r20.2 0 8) (λr21=>
  Option.bind (Ql p_s_L r21.2 0 5) (λr22=>
  j11 x6 x9 x7 r20.1 r21.1 r22.1 r22.2))))))))
  else
  j7 r2.1 (Em (Hv x1 r2.1 (W ((Em x1 r2.1 0)+1))) r2.1 0) r3.1 x6 x9 x7 x10 x11 x13 r12.2))) (λj3=>
  Fj (fun(x15:ByteArray) (x16:Int) (x17:Int) (x18:ByteArray) (x19:Int) (x20:Int)=>
  j3 x15 x16 x17 x18 x19 x20) (λj4=>
  if decide (r3.1=1) then
  Option.bind (Ps p_s_L x8 [Qr,Zz,An]) (λr6=>
  Option.bind (Ke p_s_L r6.2 [0,5900,6000,7000]) (λr7=>
  j4 r6.1 r7.1 0 An 0 r7.2))
  else
  Fj (fun(x21:Int) (x22:Int) (x23:ByteArray) (x24:Int) (x25:Int)=>
  j4 An x21 x22 x23 x24 x25) (λj5=>
  if decide (r3.1=3) then
  Option.bind (Ke p_s_L x8 [0,5900,5900,6000,6100]) (λr8=>
  Option.bind (Ke p_s_L r8.2 [0,0,0,0,3]) (λr9=>
  j5 r8.1 r9.1 An 0 r9.2))
  else
  Fj (fun(x26:ByteArray) (x27:Int) (x28:Int)=>
  j5 0 0 x26 x27 x28) (λj6=>
  if decide (r3.1=4) then
  Option.bind (Ps p_s_L x8 [Sm,Sm,LH]) (λr10=>
  Option.bind (Pi p_s_L r10.2 1 (OC 1 (Em (Hv x1 r2.1 (W ((Em x1 r2.1 0)+1))) Sm 0))) (λr11=>
  j6 r10.1 r11.1 r11.2))
  else
  j6 An 0 x8))))) (λj2=>
  if !decide (r3.1=4) then
  Option.bind (Ps p_s_L r3.2 [CM,MJ,MK,ML]) (λr4=>
  Option.bind (Ps p_s_L r4.2 [Oc,Oc,Xj,XO]) (λr5=>
  j2 r4.1 r5.1 r5.2))
  else
  j2 An An r3.2))))
  else
  j1 x1 x2 x3
def Zl(p_s_L:List Int)(p_s_at:Int)(p_many:Int):Option ((List Dy)×Int):=
  Fj (fun(x1:List (ByteArray×Int)) (x2:List Dy) (x3:Int)=>
  Option.bind (Iq x2) (λr23=>
  some (r23,x3))) (λj1=>
  Qb p_many p_s_L j1 ((p_many-0).toNat+2) ([]:List (ByteArray×Int)) ([]:List Dy) p_s_at 0 0)
def Ug(p_s_L:List Int)(p_s_at:Int)(p_many:Int):Option ((List Dy)×Int):=
  Option.bind (Rp p_s_L p_s_at 15) (λr1=>
  if r1.1 then
  Option.bind (Ye p_s_L r1.2) (λr2=>
  some (r2.1,r2.2))
  else
  Option.bind (Rp p_s_L r1.2 60) (λr3=>
  if r3.1 then
  Option.bind (Xm p_s_L r3.2) (λr4=>
  some (r4.1,r4.2))
  else
  Option.bind (Pi p_s_L r3.2 0 p_many) (λr5=>
  Option.bind (Zl p_s_L r5.2 r5.1) (λr6=>
  some (r6.1,r6.2)))))
def Wz(p_s_L:List Int)(p_s_at:Int):Option (Int×Int):=
  Option.bind (Ke p_s_L p_s_at [0,3,10,20,40,60,60,(-1)]) (λr1=>
  some (r1.1,r1.2))
def Vg(s c:ByteArray):Option ByteArray:=
  Chk (decide (s.size<=9223372036854775807)) (Chk (decide (c.size<4294967281)) (Chk (c.data.toList.all λb=>decide (b.toNat<128)) (some ⟨(Lib.trimS s.data.toList c.data.toList).toArray⟩)))
def Ia(p_s:ByteArray):Option Bool:=
  Fj (fun(c1:Bool)=>
  Fj (fun(c2:Bool)=>
  Fj (fun(c3:Bool)=>
  some c3) (λj3=>
  if c2 then Option.bind (Vg p_s Ib) (λr1=>
  j3 (c2 && (decide (r1=An)))) else j3 (c2 && true))) (λj2=>
  if c1 then Chk (inB 0 p_s.size) (
  j2 (c1 && (decide ((CE p_s 0)<=122)))) else j2 (c1 && true))) (λj1=>
  if((decide (1<=(p_s.size:Int))) && (decide ((p_s.size:Int)<=40))) then Chk (inB 0 p_s.size) (
  j1 (((decide (1<=(p_s.size:Int))) && (decide ((p_s.size:Int)<=40))) && (decide (97<=(CE p_s 0))))) else j1 (((decide (1<=(p_s.size:Int))) && (decide ((p_s.size:Int)<=40))) && true))
def Ej(p_n:Int)(p_low:Int)(p_high:Int):Bool:=
  ((decide (p_low<=p_n)) && (decide (p_n<=p_high)))
def Mt(p_r:Eh):Option Int:=
  Option.bind (Ia p_r.Key) (λr1=>
  if !r1 then
  some 5
  else
  if((!(Ej p_r.Stroke 1 5))||(!(Ej p_r.Sex 0 2))) then
  some 4
  else
  if(((((((!decide (p_r.Course=25)) && (!decide (p_r.Course=50)))||(!(Ej p_r.Legs 1 4)))||(!(Ej p_r.Metres 25 1500)))||(decide (p_r.Young<0)))||(decide (p_r.Old<p_r.Young)))||(decide (120<p_r.Old))) then
  some 1
  else
  Chk (!decide (p_r.Course=0)) (
  if !decide ((Int.tmod p_r.Metres p_r.Course)=0) then
  some 3
  else
  Fj (fun(c1:Bool)=>
  Fj (fun(x1:Bool)=>
  if x1 then
  some 16
  else
  some 0) (λj2=>
  if c1 then
  j2 c1
  else
  j2 (((decide (p_r.Stroke=5)) && (decide (1<p_r.Legs))) && (!decide (p_r.Legs=4))))) (λj1=>
  if((decide (p_r.Stroke=5)) && (decide (p_r.Legs=1))) then Chk (!decide ((W (4*p_r.Course))=0)) (
  j1 (((decide (p_r.Stroke=5)) && (decide (p_r.Legs=1))) && (!decide ((Int.tmod p_r.Metres (W (4*p_r.Course)))=0)))) else j1 (((decide (p_r.Stroke=5)) && (decide (p_r.Legs=1))) && true))))
def Xn(p_x:Eh)(p_a1:Eh):Bool:=
  decide (p_x.Key=p_a1.Key)
def Gp(p_f_0:Eh)(j1:Int):List Eh->Nat->Int
  |[],_=>j1
  |y1::ys1,i1=>if(Xn y1 p_f_0) then
  (i1:Int)
  else
  Gp p_f_0 j1 ys1 (i1+1)
def Mr(p_s:List Eh)(p_f_0:Eh):Int:=
  Fj ((-1)) (λj1=>
  Gp p_f_0 j1 p_s 0)
def Ju(p_s:List Eh)(p_f_0:Eh):Bool:=
  decide (0<=(Mr p_s p_f_0))
def Ma(p_t:Jn)(j1:Option Int):List Int->Nat->Option Int
  |[],_=>j1
  |y1::ys1,i1=>if !(Ej y1 0 10000) then
  some 1
  else
  Fj (fun(c1:Bool)=>
  if c1 then
  some 7
  else
  Ma p_t j1 ys1 (i1+1)) (λj2=>
  if(decide (0<(i1:Int))) then Chk (inB (W ((i1:Int)-1)) p_t.Points.length) (
  j2 ((decide (0<(i1:Int))) && (decide ((nth p_t.Points (W ((i1:Int)-1)))<y1)))) else j2 ((decide (0<(i1:Int))) && true))
def Sa(p_t:Jn):Option Int:=
  if decide (40<(p_t.Points.length:Int)) then
  some 2
  else
  Fj (if((!(Ej p_t.Relay 1 10))||(!(Ej p_t.Most 0 10))) then
  some 1
  else
  some 0) (λj1=>
  Ma p_t j1 p_t.Points 0)
def Vc(p_f:Qq):Int:=
  if(((!(Ej p_f.Size 1 10))||(!(Ej p_f.Many 1 5)))||(!(Ej p_f.Reserves 0 10))) then
  1
  else
  0
def Od(p_p:Ir)(j1:Option Int):List Eh->Nat->Option Int
  |[],_=>j1
  |y1::ys1,i1=>Option.bind (Mt y1) (λr1=>
  if !decide (r1=0) then
  some r1
  else
  Chk (Zx 0 (i1:Int) p_p.Races.length) (
  if(Ju (cut p_p.Races 0 (i1:Int)) y1) then
  some 6
  else
  Od p_p j1 ys1 (i1+1)))
def Wi(p_p:Ir):Option Int:=
  if decide (100<(p_p.Races.length:Int)) then
  some 2
  else
  Fj (Option.bind (Sa p_p.Table) (λr2=>
  if !decide (r2=0) then
  some r2
  else
  some (Vc p_p.Final))) (λj1=>
  Od p_p j1 p_p.Races 0)
def Kh(p_n:Int):Bool:=
  ((decide (0<=p_n)) && (decide (p_n<345686400000)))
def Uh(p_x:Dy):Option Int:=
  Option.bind (Ia p_x.Site) (λr1=>
  if !r1 then
  some 5
  else
  if((!(Ej p_x.No 1 1000000))||(!(Kh p_x.At))) then
  some 1
  else
  if !(Ej p_x.Kind 1 4) then
  some 4
  else
  Fj (fun(c1:Bool)=>
  Fj (fun(x1:Bool)=>
  if x1 then
  some 5
  else
  Fj (fun(x2:Bool)=>
  if x2 then
  some 1
  else
  Fj (fun(c4:Bool)=>
  if c4 then
  some 5
  else
  if((decide (p_x.Kind=4)) && (!(Ej p_x.Other 1 1000000))) then
  some 1
  else
  Fj (fun(x3:ByteArray) (x4:ByteArray) (x5:ByteArray) (x6:Int) (x7:Int) (x8:ByteArray) (x9:Int)=>
  if !decide (p_x=(Dy.mk p_x.Site p_x.No p_x.At p_x.Kind x3 x4 x5 x6 x7 x8 x9)) then
  some 3
  else
  some 0) (λj7=>
  Fj (fun(x10:ByteArray) (x11:ByteArray) (x12:ByteArray) (x13:Int) (x14:Int) (x15:ByteArray) (x16:Int)=>
  j7 x10 x11 x12 x13 x14 x15 x16) (λj8=>
  if decide (p_x.Kind=1) then
  j8 p_x.Who p_x.Club p_x.Race p_x.Time 0 An 0
  else
  Fj (fun(x17:ByteArray) (x18:ByteArray) (x19:Int) (x20:Int) (x21:ByteArray) (x22:Int)=>
  j8 x17 An x18 x19 x20 x21 x22) (λj9=>
  if decide (p_x.Kind=3) then
  j9 p_x.Who p_x.Race p_x.Time p_x.Fault An 0
  else
  Fj (fun(x23:ByteArray) (x24:ByteArray) (x25:ByteArray) (x26:Int)=>
  j9 x23 x24 0 0 x25 x26) (λj10=>
  if decide (p_x.Kind=4) then
  j10 An An p_x.Of p_x.Other
  else
  j10 p_x.Who p_x.Race An 0))))) (λj6=>
  if(decide (p_x.Kind=4)) then Option.bind (Ia p_x.Of) (λr5=>
  j6 ((decide (p_x.Kind=4)) && (!r5))) else j6 ((decide (p_x.Kind=4)) && true))) (λj5=>
  if(((decide (p_x.Kind=1))||(decide (p_x.Kind=3))) && (!(Ej p_x.Time 0 360000))) then
  j5 (((decide (p_x.Kind=1))||(decide (p_x.Kind=3))) && (!(Ej p_x.Time 0 360000)))
  else
  j5 ((decide (p_x.Kind=3)) && (!(Ej p_x.Fault 0 8))))) (λj3=>
  if c1 then
  j3 c1
  else
  Fj (fun(c3:Bool)=>
  j3 c3) (λj4=>
  if((decide (p_x.Kind=1)) && (!decide (p_x.Club=An))) then Option.bind (Ia p_x.Club) (λr4=>
  j4 (((decide (p_x.Kind=1)) && (!decide (p_x.Club=An))) && (!r4))) else j4 (((decide (p_x.Kind=1)) && (!decide (p_x.Club=An))) && true)))) (λj1=>
  if(!(decide (p_x.Kind=4))) then Option.bind (Ia p_x.Who) (λr2=>
  Fj (fun(c2:Bool)=>
  j1 ((!(decide (p_x.Kind=4))) && c2)) (λj2=>
  if(!r2) then j2 ((!r2)||true) else Option.bind (Ia p_x.Race) (λr3=>
  j2 ((!r2)||(!r3))))) else j1 ((!(decide (p_x.Kind=4))) && true)))
def Xe(p_x:Int):Bool:=
  !decide (p_x=p_x)
def Mg(p_x:Int)(p_y:Int):Int:=
  if(Xe p_x) then
  if(Xe p_y) then
  0
  else
  (-1)
  else
  if(Xe p_y) then
  1
  else
  if decide (p_x<p_y) then
  (-1)
  else
  if decide (p_y<p_x) then
  1
  else
  0
def Pa(j1:Int):List Int->Nat->Int
  |[],_=>j1
  |y1::ys1,i1=>if !decide (y1=0) then
  y1
  else
  Pa j1 ys1 (i1+1)
def Xx(p_vals:List Int):Int:=
  Fj (0) (λj1=>
  Pa j1 p_vals 0)
def Qf(p_a:Dy)(p_b:Dy):Int:=
  (Xx [(Mg p_a.At p_b.At),(Gm p_a.Site p_b.Site),(Mg p_a.No p_b.No)])
def Ez(p_x:Dy):Fb:=
  (Fb.mk p_x.Site p_x.No)
def Jd(p_l:List Dy)(j1:(List (Fb×Bool))->Bool->Option Int):List Dy->Nat->(List (Fb×Bool))->Bool->Option Int
  |[],_,x1,x2=>j1 x1 x2
  |y1::ys1,i1,x1,x2=>Option.bind (Uh y1) (λr1=>
  if !decide (r1=0) then
  some r1
  else
  Fj (fun(x3:Bool)=>
  if x3 then
  some 7
  else
  Jd p_l j1 ys1 (i1+1) (Hv x1 (Ez y1) true) (x2||(Em x1 (Ez y1) false))) (λj2=>
  if decide (0<(i1:Int)) then
  Chk (inB (W ((i1:Int)-1)) p_l.length) (
  j2 (decide (0<=(Qf (nth p_l (W ((i1:Int)-1))) y1))))
  else
  j2 false))
def Sk(p_l:List Dy):Option Int:=
  if decide (2000<(p_l.length:Int)) then
  some 2
  else
  Fj (fun(x1:List (Fb×Bool)) (x2:Bool)=>
  if x2 then
  some 6
  else
  some 0) (λj1=>
  Jd p_l j1 p_l 0 ([]:List (Fb×Bool)) false)
def Lj(j1:(List Int)->Option (List Int)):Nat->(List Int)->Int->Int->Option (List Int)
  |0,_,_,_=>none
  |m1+1,x1,x2,x3=>if decide (x2<x3) then
  Chk (inB x3 x1.length) (
  Chk (inB x2 x1.length) (
  Chk (inB x2 x1.length) (
  Chk (inB x3 (x1.set x2.toNat (nth x1 x3)).length) (
  Lj j1 m1 ((x1.set x2.toNat (nth x1 x3)).set x3.toNat (nth x1 x2)) (W (x2+1)) (W (x3-1))))))
  else
  j1 x1
def Sr(p_s:List Int):Option (List Int):=
  Fj (fun(x1:List Int)=>
  some x1) (λj1=>
  Lj j1 (((W ((p_s.length:Int)-1))-0).toNat+2) p_s 0 (W ((p_s.length:Int)-1)))
  def AE (l:List Dy) (at_:Int) (i:Nat) (m:List (Fb×Bool)):Bool:=decide (at_<(nth l (i:Int)).At)||Em m (Ez (nth l (i:Int))) false
def Mu(l:List Dy)(at_:Int):List Nat->List (Fb×Bool)->List Int->Option (List Int)
  |[],_,x=>Sr x
  |i::is,m,x=>if AE l at_ i m then Mu l at_ is m x else
    Chk (Qi x.length) (Mu l at_ is (if decide ((nth l (i:Int)).Kind=4) then Hv m (Fb.mk ((nth l (i:Int)).Of) ((nth l (i:Int)).Other)) true else m) (x++[(i:Int)]))
def Yr(l:List Dy)(at_:Int):Option (List Int):=Mu l at_ (Xi l.length) [] []
def Ot(p_l:List Dy)(j1:(List Dy)->Option (Option Nn)):List Int->Nat->(List Dy)->Option (Option Nn)
  |[],_,x1=>j1 x1
  |y1::ys1,i1,x1=>Chk (inB y1 p_l.length) (
  Chk (Qi x1.length) (
  Ot p_l j1 ys1 (i1+1) (x1++[(nth p_l y1)])))
def Zm(p_p:Ir)(p_l:List Dy)(p_at:Int):Option (Option Nn):=
  Option.bind (Yr p_l p_at) (λr1=>
  Fj (fun(x1:List Dy)=>
  some (some (Nn.mk p_p x1))) (λj1=>
  Ot p_l j1 r1 0 ([]:List Dy)))
def Re(j1:Option ((Option Nn)×Int)):List Int->Nat->Option ((Option Nn)×Int)
  |[],_=>j1
  |y1::ys1,i1=>if !(Kh y1) then
  some (none,1)
  else
  Re j1 ys1 (i1+1)
def Yf(p_p:Ir)(p_l:List Dy)(p_at:List Int):Option ((Option Nn)×Int):=
  Option.bind (Wi p_p) (λr1=>
  if !decide (r1=0) then
  some (none,r1)
  else
  Option.bind (Sk p_l) (λr2=>
  if !decide (r2=0) then
  some (none,r2)
  else
  Fj (Chk (inB (W ((p_at.length:Int)-1)) p_at.length) (
  Option.bind (Zm p_p p_l (nth p_at (W ((p_at.length:Int)-1)))) (λr3=>
  some (r3,0)))) (λj1=>
  Re j1 p_at 0)))
def Ys(p_r:Eh)(p_a1:ByteArray):Bool:=
  decide (p_r.Key=p_a1)
def Fz(p_f_0:ByteArray)(j1:Int):List Eh->Nat->Int
  |[],_=>j1
  |y1::ys1,i1=>if(Ys y1 p_f_0) then
  (i1:Int)
  else
  Fz p_f_0 j1 ys1 (i1+1)
def Gc(p_s:List Eh)(p_f_0:ByteArray):Int:=
  Fj ((-1)) (λj1=>
  Fz p_f_0 j1 p_s 0)
def Wj(p_a:Dy)(p_b:Dy):Int:=
  (Gm p_a.Who p_b.Who)
open Classical in
def Lh(p_x:List Dy):Option (List Dy):=if GB Wj p_x/\p_x.length<4611686018427387904 then some (Qj Wj p_x) else none
def Ns(p_race:ByteArray)(j1:(List (ByteArray×Dy))->Option (List Dy)):List Dy->Nat->(List (ByteArray×Dy))->Option (List Dy)
  |[],_,x1=>j1 x1
  |y1::ys1,i1,x1=>Fj (fun(x2:List (ByteArray×Dy))=>
  Ns p_race j1 ys1 (i1+1) x2) (λj2=>
  if !decide (y1.Race=p_race) then
  j2 x1
  else
  Fj (fun(x3:List (ByteArray×Dy))=>
  j2 x3) (λj3=>
  Fj (fun(x4:List (ByteArray×Dy))=>
  j3 x4) (λj4=>
  if decide (y1.Kind=1) then
  j4 (Hv x1 y1.Who y1)
  else
  Fj (fun(x5:List (ByteArray×Dy))=>
  j4 x5) (λj5=>
  if decide (y1.Kind=2) then
  j5 (CW x1 y1.Who)
  else
  j5 x1))))
def Pb(j6:(List Dy)->Option (List Dy)):List (ByteArray×Dy)->(List Dy)->Option (List Dy)
  |[],x6=>j6 x6
  |y2::ys2,x6=>Option.bind (α:=(List Dy)) (
  Chk (Qi x6.length) (
  some (x6++[y2.2]))) (λs=>Pb j6 ys2 s)
def Sw(p_s_p:Ir)(p_s_deeds:List Dy)(p_race:ByteArray):Option (List Dy):=
  Fj (fun(x1:List (ByteArray×Dy))=>
  Fj (fun(x6:List Dy)=>
  Option.bind (Lh x6) (λr1=>
  some r1)) (λj6=>
  XD x1 (λp=>Pb j6 p ([]:List Dy)))) (λj1=>
  Ns p_race j1 p_s_deeds 0 ([]:List (ByteArray×Dy)))
def Xy(p_s_p:Ir)(p_s_deeds:List Dy)(p_key:ByteArray):Option (Eh×Int):=
  if decide ((Gc p_s_p.Races p_key)<0) then
  some ((Eh.mk An 0 0 0 0 0 0 0),8)
  else
  Option.bind (Sw p_s_p p_s_deeds p_key) (λr1=>
  if decide (300<(r1.length:Int)) then
  some ((Eh.mk An 0 0 0 0 0 0 0),2)
  else
  Chk (inB (Gc p_s_p.Races p_key) p_s_p.Races.length) (
  some ((nth p_s_p.Races (Gc p_s_p.Races p_key)),0)))
def AO(p_p:Ir)(p_l:List Dy)(p_race:ByteArray)(p_at:Int):Option ((Option Nn)×Eh×Int):=
  Option.bind (Yf p_p p_l ([p_at]:List Int)) (λr1=>
  if !decide (r1.2=0) then
  some (none,(Eh.mk An 0 0 0 0 0 0 0),r1.2)
  else
  Option.bind (r1.1) (λr2=>
  Option.bind (Xy r2.p_ r2.deeds_ p_race) (λr3=>
  some (some r2,r3.1,r3.2))))
def Ru(p_race:ByteArray)(j1:(List (ByteArray×Dy))->(List (ByteArray×Dy))):List Dy->Nat->(List (ByteArray×Dy))->(List (ByteArray×Dy))
  |[],_,x1=>j1 x1
  |y1::ys1,i1,x1=>Fj (fun(x2:List (ByteArray×Dy))=>
  Ru p_race j1 ys1 (i1+1) x2) (λj2=>
  Fj (fun(x3:List (ByteArray×Dy))=>
  j2 x3) (λj3=>
  if((decide (y1.Race=p_race)) && (decide (y1.Kind=3))) then
  j3 (Hv x1 y1.Who y1)
  else
  j3 x1))
def Jq(p_s_p:Ir)(p_s_deeds:List Dy)(p_race:ByteArray):(List (ByteArray×Dy)):=
  Fj (fun(x1:List (ByteArray×Dy))=>
  x1) (λj1=>
  Ru p_race j1 p_s_deeds 0 ([]:List (ByteArray×Dy)))
def Ni(j1:(List (ByteArray×Bool))->Bool->Option Int):List Jt->Nat->(List (ByteArray×Bool))->Bool->Option Int
  |[],_,x1,x2=>j1 x1 x2
  |y1::ys1,i1,x1,x2=>Option.bind (Ia y1.Who) (λr1=>
  if !r1 then
  some 5
  else
  if !(Ej y1.Time 0 360000) then
  some 1
  else
  Ni j1 ys1 (i1+1) (Hv x1 y1.Who true) (x2||(Em x1 y1.Who false)))
def Xa(p_l:List Jt):Option Int:=
  if decide (300<(p_l.length:Int)) then
  some 2
  else
  Fj (fun(x1:List (ByteArray×Bool)) (x2:Bool)=>
  if x2 then
  some 6
  else
  some 0) (λj1=>
  Ni j1 p_l 0 ([]:List (ByteArray×Bool)) false)
def Kr(p_v:List Jm)(j1:Option Int):List Jm->Nat->Option Int
  |[],_=>j1
  |y1::ys1,i1=>Option.bind (Ia y1.Who) (λr2=>
  if !r2 then
  some 5
  else
  if !(Ej y1.Fault 0 8) then
  some 4
  else
  Fj (fun(c1:Bool)=>
  if c1 then
  some 7
  else
  Kr p_v j1 ys1 (i1+1)) (λj2=>
  if(decide (0<(i1:Int))) then Chk (inB (W ((i1:Int)-1)) p_v.length) (
  j2 ((decide (0<(i1:Int))) && (QI y1.Who ((nth p_v (W ((i1:Int)-1))).Who)||decide (y1.Who=((nth p_v (W ((i1:Int)-1))).Who))))) else j2 ((decide (0<(i1:Int))) && true)))
def Tt(p_v:List Jm):Option Int:=
  if decide (300<(p_v.length:Int)) then
  some 2
  else
  Fj (some 0) (λj1=>
  Kr p_v j1 p_v 0)
def Yt(p_a:Ed)(p_b:Ed)(p_a2:Int):Option Int:=
  Chk (!decide (p_a2=0)) (
  Chk (!decide (p_a2=0)) (
  some (W ((W (Int.tdiv p_a.Time p_a2))-(W (Int.tdiv p_b.Time p_a2))))))
def Fa(p_a:Int)(p_cmp_0:Int)(j2:(List Ed)->Option (List Ed)):Nat->(List Ed)->Int->Option (List Ed)
  |0,_,_=>none
  |m2+1,x3,x4=>Fj (fun(x5:Bool)=>
  if x5 then
  Chk (inB (W (x4-1)) x3.length) (
  Chk (inB x4 x3.length) (
  Chk (inB x4 x3.length) (
  Chk (inB (W (x4-1)) (x3.set x4.toNat (nth x3 (W (x4-1)))).length) (
  Fa p_a p_cmp_0 j2 m2 ((x3.set x4.toNat (nth x3 (W (x4-1)))).set ((W (x4-1)).toNat) (nth x3 x4)) (W (x4-1))))))
  else
  j2 x3) (λj3=>
  if decide (p_a<x4) then
  Chk (inB x4 x3.length) (
  Chk (inB (W (x4-1)) x3.length) (
  Option.bind (Yt (nth x3 x4) (nth x3 (W (x4-1))) p_cmp_0) (λr1=>
  j3 (decide (r1<0)))))
  else
  j3 false)
def Fo(p_b:Int)(p_a:Int)(p_cmp_0:Int)(j1:(List Ed)->Option (List Ed)):Nat->(List Ed)->Int->Option (List Ed)
  |0,_,_=>none
  |m1+1,x1,x2=>if decide (x2<p_b) then
  Fj (fun(x3:List Ed)=>
  Fo p_b p_a p_cmp_0 j1 m1 x3 (W (x2+1))) (λj2=>
  Fa p_a p_cmp_0 j2 ((x2-p_a).toNat+2) x1 x2)
  else
  j1 x1
def Il(p_data:List Ed)(p_a:Int)(p_b:Int)(p_cmp_0:Int):Option (List Ed):=
  Fj (fun(x1:List Ed)=>
  some x1) (λj1=>
  Fo p_b p_a p_cmp_0 j1 ((p_b-(W (p_a+1))).toNat+2) p_data (W (p_a+1)))
def Ha(p_n:Int)(p_cmp_0:Int)(j1:(List Ed)->Int->Option (List Ed)):Nat->(List Ed)->Int->Int->Option (List Ed)
  |0,_,_,_=>none
  |m1+1,x1,x2,x3=>if decide (x3<=p_n) then
  Option.bind (Il x1 x2 x3 p_cmp_0) (λr1=>
  Ha p_n p_cmp_0 j1 m1 r1 x3 (W (x3+20)))
  else
  j1 x1 x2
def Ic(p_n:Int)(j3:Int->Option (List Ed)):Nat->Int->Int->Option (List Ed)
  |0,_,_=>none
  |_+1,x5,x6=>if decide (x6<=p_n) then
  none
  else
  j3 x5
def Hb(p_n:Int)(j2:Option (List Ed)):Nat->Int->Option (List Ed)
  |0,_=>none
  |m2+1,x4=>if decide (x4<p_n) then
  Fj (fun(x5:Int)=>
  if decide ((W (x5+x4))<p_n) then
  none
  else
  Hb p_n j2 m2 (W (x4*2))) (λj3=>
  Ic p_n j3 ((p_n-(W (2*x4))).toNat+2) 0 (W (2*x4)))
  else
  j2
def Mh(p_data:List Ed)(p_n:Int)(p_cmp_0:Int):Option (List Ed):=
  Fj (fun(x1:List Ed) (x2:Int)=>
  Option.bind (Il x1 x2 p_n p_cmp_0) (λr2=>
  Fj (some r2) (λj2=>
  Hb p_n j2 ((p_n-20).toNat+2) 20))) (λj1=>
  Ha p_n p_cmp_0 j1 ((p_n-20).toNat+2) p_data 0 20)
def Jv(p_x:List Ed)(p_cmp_0:Int):Option (List Ed):=
  Option.bind (Mh p_x (p_x.length:Int) p_cmp_0) (λr1=>
  some r1)
def Rv(j1:(List (ByteArray×Int))->Option ((List Ed)×Int)):List Jm->Nat->(List (ByteArray×Int))->Option ((List Ed)×Int)
  |[],_,x1=>j1 x1
  |y1::ys1,i1,x1=>Rv j1 ys1 (i1+1) (Hv x1 y1.Who y1.Fault)
def Qt(x1:List (ByteArray×Int))(j2:(List Ed)->(List Ed)->Option ((List Ed)×Int)):List Jt->Nat->(List Ed)->(List Ed)->Option ((List Ed)×Int)
  |[],_,x2,x3=>j2 x2 x3
  |y2::ys2,i2,x2,x3=>Fj (fun(x4:List Ed) (x5:List Ed)=>
  Qt x1 j2 ys2 (i2+1) x4 x5) (λj3=>
  Fj (fun(x6:List Ed) (x7:List Ed)=>
  j3 x6 x7) (λj4=>
  if((decide ((Em x1 y2.Who 0)=0)) && (decide (0<y2.Time))) then
  Chk (Qi x3.length) (
  j4 x2 (x3++[(Ed.mk y2.Who 0 y2.Time (Em x1 y2.Who 0))]))
  else
  Chk (Qi x2.length) (
  j4 (x2++[(Ed.mk y2.Who 0 y2.Time (Em x1 y2.Who 0))]) x3)))
def Qu(p_by:Int)(j5:(List Ed)->Option ((List Ed)×Int)):List Ed->Nat->(List Ed)->Option ((List Ed)×Int)
  |[],_,x8=>j5 x8
  |_::ys3,i3,x8=>Fj (fun(x9:List Ed)=>
  Qu p_by j5 ys3 (i3+1) x9) (λj6=>
  Fj (fun(c1:Bool)=>
  Fj (fun(x10:List Ed)=>
  j6 x10) (λj8=>
  if c1 then
  Chk (inB (W ((i3:Int)-1)) x8.length) (
  Chk (inB (i3:Int) x8.length) (
  j8 (x8.set ((i3:Int).toNat) (Ed.mk ((nth x8 (i3:Int)).Who) ((nth x8 (W ((i3:Int)-1))).Rank) ((nth x8 (i3:Int)).Time) ((nth x8 (i3:Int)).Fault)))))
  else
  Chk (inB (i3:Int) x8.length) (
  j8 (x8.set ((i3:Int).toNat) (Ed.mk ((nth x8 (i3:Int)).Who) (W ((i3:Int)+1)) ((nth x8 (i3:Int)).Time) ((nth x8 (i3:Int)).Fault)))))) (λj7=>
  if(decide (0<(i3:Int))) then Chk (inB (i3:Int) x8.length) (
  Chk (!decide (p_by=0)) (
  Chk (inB (W ((i3:Int)-1)) x8.length) (
  Chk (!decide (p_by=0)) (
  j7 ((decide (0<(i3:Int))) && (decide ((W (Int.tdiv ((nth x8 (i3:Int)).Time) p_by))=(W (Int.tdiv ((nth x8 (W ((i3:Int)-1))).Time) p_by))))))))) else j7 ((decide (0<(i3:Int))) && true)))
def EL(p_l:List Jt)(p_v:List Jm)(p_by:Int):Option ((List Ed)×Int):=
  Option.bind (Xa p_l) (λr1=>
  if !decide (r1=0) then
  some (([]:List Ed),r1)
  else
  Option.bind (Tt p_v) (λr2=>
  if !decide (r2=0) then
  some (([]:List Ed),r2)
  else
  Fj (fun(x1:List (ByteArray×Int))=>
  Fj (fun(x2:List Ed) (x3:List Ed)=>
  Option.bind (Jv x3 p_by) (λr4=>
  Fj (fun(x8:List Ed)=>
  Chk (decide (x8.length+x2.length<1073741824)) (
  some ((x8++x2),0))) (λj5=>
  Qu p_by j5 r4 0 r4))) (λj2=>
  Qt x1 j2 p_l 0 ([]:List Ed) ([]:List Ed))) (λj1=>
  Rv j1 p_v 0 ([]:List (ByteArray×Int)))))
def AF(p_l:List Jt)(p_v:List Jm):Option ((List Ed)×Int):=
  Option.bind (EL p_l p_v 1) (λr1=>
  some (r1.1,r1.2))
def Ou(p_s_p:Ir)(p_s_deeds:List Dy)(p_race:ByteArray)(j1:(List Jm)->(List Jt)->(List (ByteArray×ByteArray))->Option ((List Ed)×(List (ByteArray×ByteArray))×Int)):List Dy->Nat->(List Jm)->(List Jt)->(List (ByteArray×ByteArray))->Option ((List Ed)×(List (ByteArray×ByteArray))×Int)
  |[],_,x1,x2,x3=>j1 x1 x2 x3
  |y1::ys1,i1,x1,x2,x3=>Fj (fun(x4:List Jm) (x5:List Jt) (x6:List (ByteArray×ByteArray))=>
  Ou p_s_p p_s_deeds p_race j1 ys1 (i1+1) x4 x5 x6) (λj2=>
  if !((Tc (Jq p_s_p p_s_deeds p_race) y1.Who).isSome) then
  j2 x1 x2 x3
  else
  Chk (Qi x2.length) (
  Fj (fun(x7:List Jm)=>
  j2 x7 (x2++[(Jt.mk y1.Who ((Em (Jq p_s_p p_s_deeds p_race) y1.Who (Dy.mk An 0 0 0 An An An 0 0 An 0)).Time))]) (Hv x3 y1.Who y1.Club)) (λj3=>
  if decide (0<((Em (Jq p_s_p p_s_deeds p_race) y1.Who (Dy.mk An 0 0 0 An An An 0 0 An 0)).Fault)) then
  Chk (Qi x1.length) (
  j3 (x1++[(Jm.mk y1.Who ((Em (Jq p_s_p p_s_deeds p_race) y1.Who (Dy.mk An 0 0 0 An An An 0 0 An 0)).Fault) ([]:List ByteArray))]))
  else
  j3 x1)))
def Zn(p_s_p:Ir)(p_s_deeds:List Dy)(p_race:ByteArray):Option ((List Ed)×(List (ByteArray×ByteArray))×Int):=
  Option.bind (Sw p_s_p p_s_deeds p_race) (λr1=>
  Fj (fun(x1:List Jm) (x2:List Jt) (x3:List (ByteArray×ByteArray))=>
  Option.bind (AF x2 x1) (λr2=>
  some (r2.1,x3,r2.2))) (λj1=>
  Ou p_s_p p_s_deeds p_race j1 r1 0 ([]:List Jm) ([]:List Jt) ([]:List (ByteArray×ByteArray))))
def Qg(p_a:Ea)(p_b:Ea):Int:=
  if !decide ((decide (p_a.Rank=0))=(decide (p_b.Rank=0))) then
  W (p_b.Rank-p_a.Rank)
  else
  if !decide (p_a.Rank=p_b.Rank) then
  W (p_a.Rank-p_b.Rank)
  else
  (Gm p_a.Who p_b.Who)
def Ey(p_a:Int)(j2:(List Ea)->Option (List Ea)):Nat->(List Ea)->Int->Option (List Ea)
  |0,_,_=>none
  |m2+1,x3,x4=>Fj (fun(x5:Bool)=>
  if x5 then
  Chk (inB (W (x4-1)) x3.length) (
  Chk (inB x4 x3.length) (
  Chk (inB x4 x3.length) (
  Chk (inB (W (x4-1)) (x3.set x4.toNat (nth x3 (W (x4-1)))).length) (
  Ey p_a j2 m2 ((x3.set x4.toNat (nth x3 (W (x4-1)))).set ((W (x4-1)).toNat) (nth x3 x4)) (W (x4-1))))))
  else
  j2 x3) (λj3=>
  if decide (p_a<x4) then
  Chk (inB x4 x3.length) (
  Chk (inB (W (x4-1)) x3.length) (
  j3 (decide ((Qg (nth x3 x4) (nth x3 (W (x4-1))))<0))))
  else
  j3 false)
def Fl(p_b:Int)(p_a:Int)(j1:(List Ea)->Option (List Ea)):Nat->(List Ea)->Int->Option (List Ea)
  |0,_,_=>none
  |m1+1,x1,x2=>if decide (x2<p_b) then
  Fj (fun(x3:List Ea)=>
  Fl p_b p_a j1 m1 x3 (W (x2+1))) (λj2=>
  Ey p_a j2 ((x2-p_a).toNat+2) x1 x2)
  else
  j1 x1
def Hz(p_data:List Ea)(p_a:Int)(p_b:Int):Option (List Ea):=
  Fj (fun(x1:List Ea)=>
  some x1) (λj1=>
  Fl p_b p_a j1 ((p_b-(W (p_a+1))).toNat+2) p_data (W (p_a+1)))
def Gj(p_n:Int)(j1:(List Ea)->Int->Option (List Ea)):Nat->(List Ea)->Int->Int->Option (List Ea)
  |0,_,_,_=>none
  |m1+1,x1,x2,x3=>if decide (x3<=p_n) then
  Option.bind (Hz x1 x2 x3) (λr1=>
  Gj p_n j1 m1 r1 x3 (W (x3+20)))
  else
  j1 x1 x2
def Hs(p_n:Int)(j3:Int->Option (List Ea)):Nat->Int->Int->Option (List Ea)
  |0,_,_=>none
  |_+1,x5,x6=>if decide (x6<=p_n) then
  none
  else
  j3 x5
def Gk(p_n:Int)(j2:Option (List Ea)):Nat->Int->Option (List Ea)
  |0,_=>none
  |m2+1,x4=>if decide (x4<p_n) then
  Fj (fun(x5:Int)=>
  if decide ((W (x5+x4))<p_n) then
  none
  else
  Gk p_n j2 m2 (W (x4*2))) (λj3=>
  Hs p_n j3 ((p_n-(W (2*x4))).toNat+2) 0 (W (2*x4)))
  else
  j2
def Li(p_data:List Ea)(p_n:Int):Option (List Ea):=
  Fj (fun(x1:List Ea) (x2:Int)=>
  Option.bind (Hz x1 x2 p_n) (λr2=>
  Fj (some r2) (λj2=>
  Gk p_n j2 ((p_n-20).toNat+2) 20))) (λj1=>
  Gj p_n j1 ((p_n-20).toNat+2) p_data 0 20)
def Hx(p_x:List Ea):Option (List Ea):=
  Option.bind (Li p_x (p_x.length:Int)) (λr1=>
  some r1)
def Nq(p_a:Int)(p_b:Int):Int:=
  Fj (fun(x1:Int)=>
  Fj (fun(x2:Int)=>
  W (x1-x2)) (λj2=>
  if decide (p_b=0) then
  j2 301
  else
  j2 p_b)) (λj1=>
  if decide (p_a=0) then
  j1 301
  else
  j1 p_a)
def Th(p_a:Ea)(p_b:Ea):Int:=
  (Xx [(Gm p_a.Race p_b.Race),(Nq p_a.Rank p_b.Rank),(Gm p_a.Who p_b.Who)])
def Qc(p_l:List Ea)(x2:Int)(j2:Int->Option (List (List Ea))):Nat->Int->Option (List (List Ea))
  |0,_=>none
  |m2+1,x3=>Fj (fun(c1:Bool)=>
  if c1 then
  Qc p_l x2 j2 m2 (W (x3+1))
  else
  j2 x3) (λj3=>
  if(decide (x3<(p_l.length:Int))) then Chk (inB x3 p_l.length) (
  Chk (inB x2 p_l.length) (
  j3 ((decide (x3<(p_l.length:Int))) && (decide (((nth p_l x3).Race)=((nth p_l x2).Race)))))) else j3 ((decide (x3<(p_l.length:Int))) && true))
def Nr(p_l:List Ea)(j1:(List (List Ea))->Option (List (List Ea))):Nat->(List (List Ea))->Int->Option (List (List Ea))
  |0,_,_=>none
  |m1+1,x1,x2=>if decide (x2<(p_l.length:Int)) then
  Fj (fun(x3:Int)=>
  Chk (Zx x2 x3 p_l.length) (
  Chk (Qi x1.length) (
  Nr p_l j1 m1 (x1++[cut p_l x2 x3]) x3))) (λj2=>
  Qc p_l x2 j2 (((p_l.length:Int)-(W (x2+1))).toNat+2) (W (x2+1)))
  else
  j1 x1
def Ty(p_l:List Ea):Option (List (List Ea)):=
  Fj (fun(x1:List (List Ea))=>
  some x1) (λj1=>
  Nr p_l j1 (((p_l.length:Int)-0).toNat+2) ([]:List (List Ea)) 0)
def Wr(p_x:Ea)(p_a1:List Ea):Option Bool:=
  Chk (inB 0 p_a1.length) (
  some (!decide (p_x.Relay=((nth p_a1 0).Relay))))
def Fw(p_f_0:List Ea)(j1:Option Int):List Ea->Nat->Option Int
  |[],_=>j1
  |y1::ys1,i1=>Option.bind (Wr y1 p_f_0) (λr1=>
  if r1 then
  some (i1:Int)
  else
  Fw p_f_0 j1 ys1 (i1+1))
def Lv(p_s:List Ea)(p_f_0:List Ea):Option Int:=
  Fj (some (-1)) (λj1=>
  Fw p_f_0 j1 p_s 0)
def Le(p_s:List Ea)(p_f_0:List Ea):Option Bool:=
  Option.bind (Lv p_s p_f_0) (λr1=>
  some (decide (0<=r1)))
def Lm(j1:(List (Ft×Bool))->Option Int):List Ea->Nat->(List (Ft×Bool))->Option Int
  |[],_,x1=>j1 x1
  |y1::ys1,i1,x1=>if Em x1 (Ft.mk y1.Race y1.Who) false then
  some 6
  else
  Lm j1 ys1 (i1+1) (Hv x1 (Ft.mk y1.Race y1.Who) true)
def Mj(j2:Option Int):List (List Ea)->Nat->Option Int
  |[],_=>j2
  |y2::ys2,i2=>Option.bind (Le y2 y2) (λr3=>
  if r3 then
  some 3
  else
  Mj j2 ys2 (i2+1))
def Mk(y3:(List Ea))(j4:Option Int):List Ea->Nat->Option Int
  |[],_=>j4
  |y4::ys4,i4=>Fj (fun(c1:Bool)=>
  if c1 then
  some 16
  else
  Mk y3 j4 ys4 (i4+1)) (λj5=>
  if((decide (0<y4.Rank)) && (!decide (y4.Rank=(W ((i4:Int)+1))))) then Fj (fun(c2:Bool)=>
  j5 (((decide (0<y4.Rank)) && (!decide (y4.Rank=(W ((i4:Int)+1))))) && c2)) (λj6=>
  if(decide ((i4:Int)=0)) then j6 ((decide ((i4:Int)=0))||true) else Chk (inB (W ((i4:Int)-1)) y3.length) (
  j6 ((decide ((i4:Int)=0))||(!decide (y4.Rank=((nth y3 (W ((i4:Int)-1))).Rank)))))) else j5 (((decide (0<y4.Rank)) && (!decide (y4.Rank=(W ((i4:Int)+1))))) && true))
def Ln(j3:Option Int):List (List Ea)->Nat->Option Int
  |[],_=>j3
  |y3::ys3,i3=>Fj (Ln j3 ys3 (i3+1)) (λj4=>
  Mk y3 j4 y3 0)
def Je(y5:(List Ea))(j8:Option Int):Nat->Int->Option Int
  |0,_=>none
  |m1+1,x2=>if decide (x2<(y5.length:Int)) then
  Chk (inB x2 y5.length) (
  Fj (fun(c3:Bool)=>
  if c3 then
  some 12
  else
  Je y5 j8 m1 (W (x2+1))) (λj9=>
  if(decide (0<((nth y5 x2).Rank))) then Chk (inB x2 y5.length) (
  Chk (inB (W (x2-10)) y5.length) (
  j9 ((decide (0<((nth y5 x2).Rank))) && (decide (((nth y5 x2).Rank)=((nth y5 (W (x2-10))).Rank)))))) else j9 ((decide (0<((nth y5 x2).Rank))) && true)))
  else
  j8
def Lo(j7:Option Int):List (List Ea)->Nat->Option Int
  |[],_=>j7
  |y5::ys5,i5=>Fj (Lo j7 ys5 (i5+1)) (λj8=>
  Je y5 j8 (((y5.length:Int)-10).toNat+2) 10)
def Yy(p_l:List Ea):Option Int:=
  Fj (fun(x1:List (Ft×Bool))=>
  Option.bind (Ty p_l) (λr1=>
  Fj (Fj (Fj (some 0) (λj7=>
  Lo j7 r1 0)) (λj3=>
  Ln j3 r1 0)) (λj2=>
  Mj j2 r1 0))) (λj1=>
  Lm j1 p_l 0 ([]:List (Ft×Bool)))
def Hc(p_l:List Ea)(j1:Option Int):List Ea->Nat->Option Int
  |[],_=>j1
  |y1::ys1,i1=>Option.bind (Ia y1.Race) (λr1=>
  Fj (fun(c1:Bool)=>
  Fj (fun(c2:Bool)=>
  if c2 then
  some 5
  else
  if !(Ej y1.Rank 0 300) then
  some 1
  else
  Fj (fun(x1:Bool)=>
  if x1 then
  some 7
  else
  Hc p_l j1 ys1 (i1+1)) (λj5=>
  if decide (0<(i1:Int)) then
  Chk (inB (W ((i1:Int)-1)) p_l.length) (
  j5 (decide (0<=(Th (nth p_l (W ((i1:Int)-1))) y1))))
  else
  j5 false)) (λj3=>
  if c1 then j3 (c1||true) else Fj (fun(c3:Bool)=>
  j3 (c1||c3)) (λj4=>
  if(!decide (y1.Club=An)) then Option.bind (Ia y1.Club) (λr3=>
  j4 ((!decide (y1.Club=An)) && (!r3))) else j4 ((!decide (y1.Club=An)) && true)))) (λj2=>
  if(!r1) then j2 ((!r1)||true) else Option.bind (Ia y1.Who) (λr2=>
  j2 ((!r1)||(!r2)))))
def Ui(p_l:List Ea):Option Int:=
  if decide (2000<(p_l.length:Int)) then
  some 2
  else
  Fj (Option.bind (Yy p_l) (λr4=>
  some r4)) (λj1=>
  Hc p_l j1 p_l 0)
def Uc(p_t:Jn)(p_l:List Ea):Option Int:=
  Option.bind (Sa p_t) (λr1=>
  if !decide (r1=0) then
  some r1
  else
  Option.bind (Ui p_l) (λr2=>
  some r2))
def Pt:Eb:=
  (Eb.mk 0 1)
def Oe(j1:Int->Option Eb):Nat->Int->Int->Option Eb
  |0,_,_=>none
  |m1+1,x1,x2=>if decide (0<x1) then
  Chk (!decide (x1=0)) (
  Oe j1 m1 (Int.tmod x2 x1) x1)
  else
  j1 x2
def Ov(p_a:Int)(p_b:Int):Option Eb:=
  Fj (fun(x2:Int)=>
  Chk (!decide (x2=0)) (
  Chk (!decide (x2=0)) (
  some (Eb.mk (W (Int.tdiv p_a x2)) (W (Int.tdiv p_b x2)))))) (λj1=>
  Oe j1 ((p_a-0).toNat+2) p_a p_b)
def Nt(p_t:Jn)(j1:(List (ByteArray×Int))->(List Int)->(List Ei)->Option (List Ei)):List Ea->Nat->(List (ByteArray×Int))->(List Int)->(List Ei)->Option (List Ei)
  |[],_,x1,x2,x3=>j1 x1 x2 x3
  |y1::ys1,i1,x1,x2,x3=>Fj (fun(x4:List (ByteArray×Int)) (x5:List Int) (x6:List Ei)=>
  Nt p_t j1 ys1 (i1+1) x4 x5 x6) (λj2=>
  if((decide (y1.Rank=0))||(decide (y1.Club=An))) then
  j2 x1 x2 x3
  else
  Fj (fun(x7:List Int)=>
  Chk (Qi x3.length) (
  j2 (Hv x1 y1.Club (W ((Em x1 y1.Club 0)+1))) x7 (x3++[(Ei.mk y1 Pt)]))) (λj3=>
  if((decide (p_t.Most=0))||(decide ((Em (Hv x1 y1.Club (W ((Em x1 y1.Club 0)+1))) y1.Club 0)<=p_t.Most))) then
  Chk (Qi x2.length) (
  j3 (x2++[(x3.length:Int)]))
  else
  j3 x2))
def Qv(p_t:Jn)(x2:List Int)(x8:List Ei)(x9:Int)(j5:Int->Int->Option (List Ei)):Nat->Int->Int->Option (List Ei)
  |0,_,_=>none
  |m2+1,x10,x11=>Fj (fun(c1:Bool)=>
  if c1 then
  Fj (fun(x12:Int)=>
  Qv p_t x2 x8 x9 j5 m2 (W (x10+1)) x12) (λj7=>
  Fj (fun(x13:Int)=>
  j7 x13) (λj8=>
  if decide (x10<(p_t.Points.length:Int)) then
  Chk (inB x10 p_t.Points.length) (
  j8 (W (x11+(nth p_t.Points x10))))
  else
  j8 x11))
  else
  j5 x10 x11) (λj6=>
  if(decide (x10<(x2.length:Int))) then Chk (inB x10 x2.length) (
  Chk (inB (nth x2 x10) x8.length) (
  Chk (inB x9 x2.length) (
  Chk (inB (nth x2 x9) x8.length) (
  j6 ((decide (x10<(x2.length:Int))) && (decide ((((nth x8 (nth x2 x10)).x_).Rank)=(((nth x8 (nth x2 x9)).x_).Rank)))))))) else j6 ((decide (x10<(x2.length:Int))) && true))
def Nu(x10:Int)(x9:Int)(x14:Int)(x2:List Int)(j10:(List Ei)->Option (List Ei)):Nat->(List Ei)->Int->Option (List Ei)
  |0,_,_=>none
  |m3+1,x15,x16=>if decide (x16<((x10.toNat-x9.toNat:Nat):Int)) then
  Chk (inB x16 (x10.toNat-x9.toNat)) (
  Option.bind (Ov x14 (W (x10-x9))) (λr1=>
  Chk (inB (nth (cut x2 x9 x10) x16) x15.length) (
  Nu x10 x9 x14 x2 j10 m3 (x15.set ((nth (cut x2 x9 x10) x16).toNat) (Ei.mk ((nth x15 (nth (cut x2 x9 x10) x16)).x_) r1)) (W (x16+1)))))
  else
  j10 x15
def Mz(x2:List Int)(p_l:List Ea)(p_t:Jn)(j4:(List Ei)->Option (List Ei)):Nat->(List Ei)->Int->Option (List Ei)
  |0,_,_=>none
  |m1+1,x8,x9=>if decide (x9<(x2.length:Int)) then
  Fj (fun(x10:Int) (x11:Int)=>
  Chk (inB 0 p_l.length) (
  Fj (fun(x14:Int)=>
  Chk (Zx x9 x10 x2.length) (
  Fj (fun(x15:List Ei)=>
  Mz x2 p_l p_t j4 m1 x15 x10) (λj10=>
  Nu x10 x9 x14 x2 j10 ((((x10.toNat-x9.toNat:Nat):Int)-0).toNat+2) x8 0))) (λj9=>
  if(nth p_l 0).Relay then
  j9 (W (x11*p_t.Relay))
  else
  j9 x11))) (λj5=>
  Qv p_t x2 x8 x9 j5 (((x2.length:Int)-x9).toNat+2) x9 0)
  else
  j4 x8
def Xz(p_t:Jn)(p_l:List Ea):Option (List Ei):=
  Fj (fun(x1:List (ByteArray×Int)) (x2:List Int) (x3:List Ei)=>
  Fj (fun(x8:List Ei)=>
  some x8) (λj4=>
  Mz x2 p_l p_t j4 (((x2.length:Int)-0).toNat+2) x3 0)) (λj1=>
  Nt p_t j1 p_l 0 ([]:List (ByteArray×Int)) ([]:List Int) ([]:List Ei))
def Qw(p_t:Jn)(j1:(List Ei)->Option (List Ei)):List (List Ea)->Nat->(List Ei)->Option (List Ei)
  |[],_,x1=>j1 x1
  |y1::ys1,i1,x1=>Option.bind (Xz p_t y1) (λr3=>
  Chk (decide (x1.length+r3.length<1073741824)) (
  Qw p_t j1 ys1 (i1+1) (x1++r3)))
def AP(p_t:Jn)(p_l:List Ea):Option (List Ei):=
  Option.bind (Ty p_l) (λr1=>
  Fj (fun(x1:List Ei)=>
  some x1) (λj1=>
  Qw p_t j1 r1 0 ([]:List Ei)))
def Ow(j1:(List Et)->Option ((List Et)×Int)):List Ei->Nat->(List Et)->Option ((List Et)×Int)
  |[],_,x1=>j1 x1
  |y1::ys1,i1,x1=>Chk (decide (y1.x_.Race.size+Rz.size<1073741824)) (
  Chk (decide ((y1.x_.Race++Rz).size+y1.x_.Who.size<1073741824)) (
  Chk (Qi x1.length) (
  Ow j1 ys1 (i1+1) (x1++[(Et.mk ((y1.x_.Race++Rz)++y1.x_.Who) y1.points_)]))))
def Vh(p_t:Jn)(p_l:List Ea):Option ((List Et)×Int):=
  Option.bind (Uc p_t p_l) (λr1=>
  if !decide (r1=0) then
  some (([]:List Et),r1)
  else
  Option.bind (AP p_t p_l) (λr2=>
  Fj (fun(x1:List Et)=>
  some (x1,0)) (λj1=>
  Ow j1 r2 0 ([]:List Et))))
def Nv(p_r:Eh)(r1:(List Ed)×(List (ByteArray×ByteArray))×Int)(j1:(List Ea)->Option ((List Ec)×Int)):List Ed->Nat->(List Ea)->Option ((List Ec)×Int)
  |[],_,x1=>j1 x1
  |y1::ys1,i1,x1=>Chk (Qi x1.length) (
  Nv p_r r1 j1 ys1 (i1+1) (x1++[(Ea.mk p_r.Key y1.Who (Em r1.2.1 y1.Who An) y1.Rank (decide (1<p_r.Legs)))]))
def Nw(j2:(List (ByteArray×Eb))->Option ((List Ec)×Int)):List Et->Nat->(List (ByteArray×Eb))->Option ((List Ec)×Int)
  |[],_,x2=>j2 x2
  |y2::ys2,i2,x2=>Nw j2 ys2 (i2+1) (Hv x2 y2.Key y2.Points)
def Mv(p_r:Eh)(r1:(List Ed)×(List (ByteArray×ByteArray))×Int)(x2:List (ByteArray×Eb))(j3:(List Ec)->Option ((List Ec)×Int)):List Ed->Nat->(List Ec)->Option ((List Ec)×Int)
  |[],_,x3=>j3 x3
  |y3::ys3,i3,x3=>Chk (decide (p_r.Key.size+Rz.size<1073741824)) (
  Chk (decide ((p_r.Key++Rz).size+y3.Who.size<1073741824)) (
  Fj (fun(x4:Int) (x5:Int)=>
  Chk (Qi x3.length) (
  Mv p_r r1 x2 j3 ys3 (i3+1) (x3++[(Ec.mk y3.Rank y3.Who (Em r1.2.1 y3.Who An) y3.Time y3.Fault (Eb.mk x4 x5))]))) (λj4=>
  if !((Tc x2 ((p_r.Key++Rz)++y3.Who)).isSome) then
  j4 0 1
  else
  j4 ((Em x2 ((p_r.Key++Rz)++y3.Who) (Eb.mk 0 0)).Num) ((Em x2 ((p_r.Key++Rz)++y3.Who) (Eb.mk 0 0)).Den))))
def Ua(p_s_p:Ir)(p_s_deeds:List Dy)(p_r:Eh):Option ((List Ec)×Int):=
  Option.bind (Zn p_s_p p_s_deeds p_r.Key) (λr1=>
  if !decide (r1.2.2=0) then
  some (([]:List Ec),r1.2.2)
  else
  Fj (fun(x1:List Ea)=>
  Option.bind (Hx x1) (λr2=>
  Option.bind (Vh p_s_p.Table r2) (λr3=>
  if !decide (r3.2=0) then
  some (([]:List Ec),r3.2)
  else
  Fj (fun(x2:List (ByteArray×Eb))=>
  Fj (fun(x3:List Ec)=>
  some (x3,0)) (λj3=>
  Mv p_r r1 x2 j3 r1.1 0 ([]:List Ec))) (λj2=>
  Nw j2 r3.1 0 ([]:List (ByteArray×Eb)))))) (λj1=>
  Nv p_r r1 j1 r1.1 0 ([]:List Ea)))
def Ws(p_p:Ir)(p_l:List Dy)(p_race:ByteArray)(p_at:Int):Option ((List Ec)×Int):=
  Option.bind (AO p_p p_l p_race p_at) (λr1=>
  if !decide (r1.2.2=0) then
  some (([]:List Ec),r1.2.2)
  else
  Option.bind (r1.1) (λr2=>
  Option.bind (Ua r2.p_ r2.deeds_ r1.2.1) (λr3=>
  some (r3.1,r3.2))))
def Sy(p_s_p:Ir)(p_s_deeds:List Dy)(j1:Option Int):List Eh->Nat->Option Int
  |[],_=>j1
  |y1::ys1,i1=>Option.bind (Xy p_s_p p_s_deeds y1.Key) (λr1=>
  if !decide (r1.2=0) then
  some r1.2
  else
  Sy p_s_p p_s_deeds j1 ys1 (i1+1))
def BL(p_s_p:Ir)(p_s_deeds:List Dy):Option Int:=
  Fj (some 0) (λj1=>
  Sy p_s_p p_s_deeds j1 p_s_p.Races 0)
def GJ(p_a:Eb)(p_b:Eb):Option Eb:=
  Option.bind (Ov (W ((W (p_a.Num*p_b.Den))+(W (p_b.Num*p_a.Den)))) (W (p_a.Den*p_b.Den))) (λr1=>
  some r1)
def Ya(p_a:Et)(p_b:Et):Int:=
  (Gm p_a.Key p_b.Key)
open Classical in
def Kc(p_x:List Et):Option (List Et):=if GB Ya p_x/\p_x.length<4611686018427387904 then some (Qj Ya p_x) else none
def Qx(j2:(List (ByteArray×Eb))->Option ((List Et)×Int)):List Dy->Nat->(List (ByteArray×Eb))->Option ((List Et)×Int)
  |[],_,x2=>j2 x2
  |y2::ys2,i2,x2=>Fj (fun(x3:List (ByteArray×Eb))=>
  Qx j2 ys2 (i2+1) x3) (λj3=>
  Fj (fun(x4:List (ByteArray×Eb))=>
  j3 x4) (λj4=>
  if((!decide (y2.Club=An)) && (!((Tc x2 y2.Club).isSome))) then
  j4 (Hv x2 y2.Club (Eb.mk 0 1))
  else
  j4 x2))
def Pu(j5:(List (ByteArray×Eb))->Option ((List Et)×Int)):List Ec->Nat->(List (ByteArray×Eb))->Option ((List Et)×Int)
  |[],_,x5=>j5 x5
  |y3::ys3,i3,x5=>Fj (fun(x6:List (ByteArray×Eb))=>
  Pu j5 ys3 (i3+1) x6) (λj6=>
  Fj (fun(x7:List (ByteArray×Eb))=>
  j6 x7) (λj7=>
  if !decide (y3.Club=An) then
  Option.bind (GJ (Em x5 y3.Club (Eb.mk 0 0)) y3.Points) (λr4=>
  j7 (Hv x5 y3.Club r4))
  else
  j7 x5))
def Nx(p_s_p:Ir)(p_s_deeds:List Dy)(j1:(List (ByteArray×Eb))->Option ((List Et)×Int)):List Eh->Nat->(List (ByteArray×Eb))->Option ((List Et)×Int)
  |[],_,x1=>j1 x1
  |y1::ys1,i1,x1=>Option.bind (Sw p_s_p p_s_deeds y1.Key) (λr2=>
  Fj (fun(x2:List (ByteArray×Eb))=>
  Option.bind (Ua p_s_p p_s_deeds y1) (λr3=>
  if !decide (r3.2=0) then
  some (([]:List Et),r3.2)
  else
  Fj (fun(x5:List (ByteArray×Eb))=>
  Nx p_s_p p_s_deeds j1 ys1 (i1+1) x5) (λj5=>
  Pu j5 r3.1 0 x2))) (λj2=>
  Qx j2 r2 0 x1))
def Pv(j8:(List Et)->Option ((List Et)×Int)):List (ByteArray×Eb)->(List Et)->Option ((List Et)×Int)
  |[],x8=>j8 x8
  |y4::ys4,x8=>Option.bind (α:=(List Et)) (
  Chk (Qi x8.length) (
  some (x8++[(Et.mk y4.1 y4.2)]))) (λs=>Pv j8 ys4 s)
def AQ(p_s_p:Ir)(p_s_deeds:List Dy):Option ((List Et)×Int):=
  Option.bind (BL p_s_p p_s_deeds) (λr1=>
  if !decide (r1=0) then
  some (([]:List Et),r1)
  else
  Fj (fun(x1:List (ByteArray×Eb))=>
  Fj (fun(x8:List Et)=>
  Option.bind (Kc x8) (λr5=>
  some (r5,0))) (λj8=>
  XD x1 (λp=>Pv j8 p ([]:List Et)))) (λj1=>
  Nx p_s_p p_s_deeds j1 p_s_p.Races 0 ([]:List (ByteArray×Eb))))
def AG(p_p:Ir)(p_l:List Dy)(p_at:Int):Option ((List Et)×Int):=
  Option.bind (Yf p_p p_l ([p_at]:List Int)) (λr1=>
  if !decide (r1.2=0) then
  some (([]:List Et),r1.2)
  else
  Option.bind (r1.1) (λr2=>
  Option.bind (AQ r2.p_ r2.deeds_) (λr3=>
  some (r3.1,r3.2))))
def Ny(p_s_p:Ir)(p_s_deeds:List Dy)(y1:Eh)(j2:(List Ig)->Option ((List Ig)×Int)):List Dy->Nat->(List Ig)->Option ((List Ig)×Int)
  |[],_,x2=>j2 x2
  |y2::ys2,i2,x2=>Fj (fun(x3:List Ig)=>
  Ny p_s_p p_s_deeds y1 j2 ys2 (i2+1) x3) (λj3=>
  Fj (fun(x4:List Ig)=>
  j3 x4) (λj4=>
  if !((Tc (Jq p_s_p p_s_deeds y1.Key) y2.Who).isSome) then
  Chk (Qi x2.length) (
  j4 (x2++[(Ig.mk y1.Key y2.Who)]))
  else
  j4 x2))
def Mw(p_s_p:Ir)(p_s_deeds:List Dy)(j1:(List Ig)->Option ((List Ig)×Int)):List Eh->Nat->(List Ig)->Option ((List Ig)×Int)
  |[],_,x1=>j1 x1
  |y1::ys1,i1,x1=>Option.bind (Sw p_s_p p_s_deeds y1.Key) (λr2=>
  Fj (fun(x2:List Ig)=>
  Mw p_s_p p_s_deeds j1 ys1 (i1+1) x2) (λj2=>
  Ny p_s_p p_s_deeds y1 j2 r2 0 x1))
def Yu(p_s_p:Ir)(p_s_deeds:List Dy):Option ((List Ig)×Int):=
  Option.bind (BL p_s_p p_s_deeds) (λr1=>
  if !decide (r1=0) then
  some (([]:List Ig),r1)
  else
  Fj (fun(x1:List Ig)=>
  some (x1,0)) (λj1=>
  Mw p_s_p p_s_deeds j1 p_s_p.Races 0 ([]:List Ig)))
def Yg(p_p:Ir)(p_l:List Dy)(p_at:Int):Option ((List Ig)×Int):=
  Option.bind (Yf p_p p_l ([p_at]:List Int)) (λr1=>
  if !decide (r1.2=0) then
  some (([]:List Ig),r1.2)
  else
  Option.bind (r1.1) (λr2=>
  Option.bind (Yu r2.p_ r2.deeds_) (λr3=>
  some (r3.1,r3.2))))
def Ga(p_n:Int)(p_low:Int)(p_high:Int):Bool:=
  ((decide (p_low<=p_n)) && (decide (p_n<=p_high)))
def Sb(s:ByteArray)(c:Int):Int:=Lib.indexByte s.data.toList c.toNat.toUInt8
def Yh(p_s:ByteArray):Option Bool:=
  Fj (fun(c1:Bool)=>
  Fj (fun(c2:Bool)=>
  some c2) (λj2=>
  if c1 then Chk (inB 0 p_s.size) (
  j2 (c1 && (decide (0<=(Sb Jk (CE p_s 0)))))) else j2 (c1 && true))) (λj1=>
  if(Ga (p_s.size:Int) 1 40) then Option.bind (Vg p_s Ib) (λr1=>
  j1 ((Ga (p_s.size:Int) 1 40) && (decide (r1=An)))) else j1 ((Ga (p_s.size:Int) 1 40) && true))
def Uj(p_r:Eh):Option Int:=
  Option.bind (Yh p_r.Key) (λr1=>
  if !r1 then
  some 5
  else
  if((!(Ga p_r.Stroke 1 5))||(!(Ga p_r.Sex 0 2))) then
  some 4
  else
  Fj (fun(x1:Bool)=>
  if x1 then
  some 1
  else
  Chk (!decide (p_r.Course=0)) (
  if !decide ((Int.tmod p_r.Metres p_r.Course)=0) then
  some 3
  else
  Fj (fun(c1:Bool)=>
  if c1 then
  some 16
  else
  some 0) (λj5=>
  if(decide (p_r.Stroke=5)) then Fj (fun(c2:Bool)=>
  j5 ((decide (p_r.Stroke=5)) && (c2||((decide (1<p_r.Legs)) && (!decide (p_r.Legs=4)))))) (λj6=>
  if(decide (p_r.Legs=1)) then Chk (!decide ((W (4*p_r.Course))=0)) (
  j6 ((decide (p_r.Legs=1)) && (!decide ((Int.tmod p_r.Metres (W (4*p_r.Course)))=0)))) else j6 ((decide (p_r.Legs=1)) && true)) else j5 ((decide (p_r.Stroke=5)) && true)))) (λj1=>
  if((!decide (p_r.Course=25)) && (!decide (p_r.Course=50))) then
  j1 ((!decide (p_r.Course=25)) && (!decide (p_r.Course=50)))
  else
  Fj (fun(x2:Bool)=>
  j1 x2) (λj2=>
  if !(Ga p_r.Legs 1 4) then
  j2 (!(Ga p_r.Legs 1 4))
  else
  Fj (fun(x3:Bool)=>
  j2 x3) (λj3=>
  if !(Ga p_r.Metres 25 1500) then
  j3 (!(Ga p_r.Metres 25 1500))
  else
  Fj (fun(x4:Bool)=>
  j3 x4) (λj4=>
  if !(Ga p_r.Young 0 p_r.Old) then
  j4 (!(Ga p_r.Young 0 p_r.Old))
  else
  j4 (decide (120<p_r.Old)))))))
def Jw(p_key:ByteArray)(j1:(Eh×Bool)):List Eh->Nat->(Eh×Bool)
  |[],_=>j1
  |y1::ys1,i1=>if decide (y1.Key=p_key) then
  (y1,true)
  else
  Jw p_key j1 ys1 (i1+1)
def Ho(p_l:List Eh)(p_key:ByteArray):(Eh×Bool):=
  Fj (((Eh.mk An 0 0 0 0 0 0 0),false)) (λj1=>
  Jw p_key j1 p_l 0)
def Ik(p_n:Int)(p_low:Int)(p_high:Int):Bool:=
  ((decide (p_low<=p_n)) && (decide (p_n<=p_high)))
def Ks(p_t:Jn)(j1:Option Int):List Int->Nat->Option Int
  |[],_=>j1
  |y1::ys1,i1=>if !(Ik y1 0 10000) then
  some 1
  else
  Fj (fun(c1:Bool)=>
  if c1 then
  some 7
  else
  Ks p_t j1 ys1 (i1+1)) (λj2=>
  if(decide (0<(i1:Int))) then Chk (inB (W ((i1:Int)-1)) p_t.Points.length) (
  j2 ((decide (0<(i1:Int))) && (decide ((nth p_t.Points (W ((i1:Int)-1)))<y1)))) else j2 ((decide (0<(i1:Int))) && true))
def Tu(p_t:Jn):Option Int:=
  if decide (40<(p_t.Points.length:Int)) then
  some 2
  else
  Fj (if((!(Ik p_t.Relay 1 10))||(!(Ik p_t.Most 0 10))) then
  some 1
  else
  some 0) (λj1=>
  Ks p_t j1 p_t.Points 0)
def Tv(p_f:Qq):Int:=
  if(((!(Ga p_f.Size 1 10))||(!(Ga p_f.Many 1 5)))||(!(Ga p_f.Reserves 0 10))) then
  1
  else
  0
def Lk(p_p:Ir)(j1:Option Int):List Eh->Nat->Option Int
  |[],_=>j1
  |y1::ys1,i1=>Option.bind (Uj y1) (λr1=>
  if !decide (r1=0) then
  some r1
  else
  Fj (if(Ho (cut p_p.Races 0 (i1:Int)) y1.Key).2 then
  some 6
  else
  Lk p_p j1 ys1 (i1+1)) (λj2=>
  Chk (Zx 0 (i1:Int) p_p.Races.length) (
  j2)))
def Uk(p_p:Ir):Option Int:=
  if decide (100<(p_p.Races.length:Int)) then
  some 2
  else
  Fj (Option.bind (Tu p_p.Table) (λr2=>
  if !decide (r2=0) then
  some r2
  else
  some (Tv p_p.Final))) (λj1=>
  Lk p_p j1 p_p.Races 0)
def Nz(p_s:ByteArray)(p_some:ByteArray)(j1:Option Bool):Nat->Int->Option Bool
  |0,_=>none
  |m1+1,x1=>if decide (x1<(p_s.size:Int)) then
  Chk (inB x1 p_s.size) (
  if decide ((Sb p_some (CE p_s x1))<0) then
  some false
  else
  Nz p_s p_some j1 m1 (W (x1+1)))
  else
  j1
def Xf(p_s:ByteArray)(p_some:ByteArray):Option Bool:=
  Fj (some true) (λj1=>
  Nz p_s p_some j1 (((p_s.size:Int)-0).toNat+2) 0)
def Pj(p_s:ByteArray):Option Bool:=
  Fj (fun(c1:Bool)=>
  Fj (fun(c2:Bool)=>
  some c2) (λj2=>
  if c1 then Option.bind (Xf p_s Ib) (λr2=>
  j2 (c1 && r2)) else j2 (c1 && true))) (λj1=>
  if(Ik (p_s.size:Int) 1 40) then Chk (Zx 0 1 p_s.size) (
  Option.bind (Xf (scut p_s 0 1) Jk) (λr1=>
  j1 ((Ik (p_s.size:Int) 1 40) && r1))) else j1 ((Ik (p_s.size:Int) 1 40) && true))
def Ox(p_at:Int):Bool:=
  (Ik p_at 0 345686399999)
def Ul(p_d:Dy):Option Int:=
  Option.bind (Pj p_d.Site) (λr1=>
  if !r1 then
  some 5
  else
  if((!(Ik p_d.No 1 1000000))||(!(Ox p_d.At))) then
  some 1
  else
  if !(Ik p_d.Kind 1 4) then
  some 4
  else
  Fj (fun(x1:ByteArray) (x2:ByteArray) (x3:ByteArray) (x4:Int)=>
  Fj (fun(x5:ByteArray)=>
  Fj (fun(x6:Int)=>
  Fj (fun(x7:Int)=>
  if !decide (p_d=(Dy.mk p_d.Site p_d.No p_d.At p_d.Kind x1 x5 x2 x6 x7 x3 x4)) then
  some 3
  else
  some 0) (λj7=>
  if decide (p_d.Kind=3) then
  if !(Ik p_d.Fault 0 8) then
  some 1
  else
  j7 p_d.Fault
  else
  j7 0)) (λj6=>
  if((decide (p_d.Kind=1))||(decide (p_d.Kind=3))) then
  if !(Ik p_d.Time 0 360000) then
  some 1
  else
  j6 p_d.Time
  else
  j6 0)) (λj5=>
  if decide (p_d.Kind=1) then
  j5 p_d.Club
  else
  j5 An)) (λj1=>
  if decide (p_d.Kind=4) then
  Option.bind (Pj p_d.Of) (λr2=>
  if !r2 then
  some 5
  else
  if !(Ik p_d.Other 1 1000000) then
  some 1
  else
  j1 An An p_d.Of p_d.Other)
  else
  Option.bind (Pj p_d.Who) (λr3=>
  Fj (fun(c1:Bool)=>
  Fj (fun(c2:Bool)=>
  if c2 then
  some 5
  else
  j1 p_d.Who p_d.Race An 0) (λj3=>
  if c1 then j3 (c1||true) else Fj (fun(c3:Bool)=>
  j3 (c1||c3)) (λj4=>
  if((decide (p_d.Kind=1)) && (!decide (p_d.Club=An))) then Option.bind (Pj p_d.Club) (λr5=>
  j4 (((decide (p_d.Kind=1)) && (!decide (p_d.Club=An))) && (!r5))) else j4 (((decide (p_d.Kind=1)) && (!decide (p_d.Club=An))) && true)))) (λj2=>
  if(!r3) then j2 ((!r3)||true) else Option.bind (Pj p_d.Race) (λr4=>
  j2 ((!r3)||(!r4)))))))
def Yz(p_a:Dy)(p_b:Dy):Bool:=
  ((decide (p_a.Site=p_b.Site)) && (decide (p_a.No=p_b.No)))
def Sc(p_o:Dy)(p_a1:Dy):Bool:=
  (Yz p_o p_a1)
def Fh(p_f_0:Dy)(j1:Int):List Dy->Nat->Int
  |[],_=>j1
  |y1::ys1,i1=>if(Sc y1 p_f_0) then
  (i1:Int)
  else
  Fh p_f_0 j1 ys1 (i1+1)
def Oa(p_s:List Dy)(p_f_0:Dy):Int:=
  Fj ((-1)) (λj1=>
  Fh p_f_0 j1 p_s 0)
def Kl(p_s:List Dy)(p_f_0:Dy):Bool:=
  decide (0<=(Oa p_s p_f_0))
def Ja(p_l:List Dy)(j1:Option Int):List Dy->Nat->Option Int
  |[],_=>j1
  |y1::ys1,i1=>Option.bind (Ul y1) (λr1=>
  if !decide (r1=0) then
  some r1
  else
  Fj (fun(x1:Bool)=>
  if x1 then
  some 7
  else
  Ja p_l j1 ys1 (i1+1)) (λj2=>
  if decide (0<(i1:Int)) then
  Chk (inB (W ((i1:Int)-1)) p_l.length) (
  j2 (decide (0<=(Ll (nth p_l (W ((i1:Int)-1))) y1))))
  else
  j2 false))
def Jy(p_l:List Dy)(j3:Option Int):List Dy->Nat->Option Int
  |[],_=>j3
  |y2::ys2,i2=>Chk (Zx 0 (i2:Int) p_l.length) (
  if(Kl (cut p_l 0 (i2:Int)) y2) then
  some 6
  else
  Jy p_l j3 ys2 (i2+1))
def Tw(p_l:List Dy):Option Int:=
  if decide (2000<(p_l.length:Int)) then
  some 2
  else
  Fj (Fj (some 0) (λj3=>
  Jy p_l j3 p_l 0)) (λj1=>
  Ja p_l j1 p_l 0)
def AL(p_is:Bool)(p_e:Int):Int:=
  if p_is then
  p_e
  else
  0
def Na(p_at:Int):Int:=
  (AL (!(Ox p_at)) 1)
def Mc(j1:Int):List Int->Nat->Int
  |[],_=>j1
  |y1::ys1,i1=>if !decide (y1=0) then
  y1
  else
  Mc j1 ys1 (i1+1)
def Ub(p_l:List Int):Int:=
  Fj (0) (λj1=>
  Mc j1 p_l 0)
def Pf(p_p:Ir)(p_l:List Dy)(p_at:Int):Option Int:=
  Option.bind (Uk p_p) (λr1=>
  if !decide (r1=0) then
  some r1
  else
  Option.bind (Tw p_l) (λr2=>
  some (Ub [r2,(Na p_at)])))
def Hw(p_a1:List Dy)(p_i:Int)(self:Int->(List Dy)->Option Bool)(j1:Option Bool):Nat->Int->Option Bool
  |0,_=>none
  |m1+1,x1=>if decide (x1<(p_a1.length:Int)) then
  Fj (fun(x2:Bool)=>
  if x2 then
  some false
  else
  Hw p_a1 p_i self j1 m1 (W (x1+1))) (λj2=>
  Chk (inB x1 p_a1.length) (
  if decide (((nth p_a1 x1).Kind)=4) then
  Chk (inB x1 p_a1.length) (
  Chk (inB p_i p_a1.length) (
  if decide (((nth p_a1 x1).Of)=((nth p_a1 p_i).Site)) then
  Chk (inB x1 p_a1.length) (
  Chk (inB p_i p_a1.length) (
  if decide (((nth p_a1 x1).Other)=((nth p_a1 p_i).No)) then
  Option.bind (self x1 p_a1) (λr1=>
  j2 r1)
  else
  Chk (inB x1 p_a1.length) (
  Chk (inB x1 p_a1.length) (
  Chk (inB p_i p_a1.length) (
  Chk (inB x1 p_a1.length) (
  Chk (inB p_i p_a1.length) (
  j2 false)))))))
  else
  if false then
  Option.bind (self x1 p_a1) (λr2=>
  j2 r2)
  else
  Chk (inB x1 p_a1.length) (
  Chk (inB x1 p_a1.length) (
  Chk (inB p_i p_a1.length) (
  j2 false)))))
  else
  if false then
  Chk (inB x1 p_a1.length) (
  Chk (inB p_i p_a1.length) (
  if decide (((nth p_a1 x1).Other)=((nth p_a1 p_i).No)) then
  Option.bind (self x1 p_a1) (λr3=>
  j2 r3)
  else
  Chk (inB x1 p_a1.length) (
  Chk (inB x1 p_a1.length) (
  Chk (inB p_i p_a1.length) (
  j2 false)))))
  else
  if false then
  Option.bind (self x1 p_a1) (λr4=>
  j2 r4)
  else
  Chk (inB x1 p_a1.length) (
  j2 false)))
  else
  j1
def Qy(self:Int->(List Dy)->Option Bool)(p_i:Int)(p_a1:List Dy):Option Bool:=
  Fj (some true) (λj1=>
  Hw p_a1 p_i self j1 (((p_a1.length:Int)-(W (p_i+1))).toNat+2) (W (p_i+1)))
def Jl:Nat->Int->(List Dy)->Option Bool
  |0,_,_=>none
  |m+1,p_i,p_a1=>Qy (Jl m) p_i p_a1
def Jz(p_at:Int)(j1:(List Dy)->Option (List Int)):List Dy->Nat->(List Dy)->Option (List Int)
  |[],_,x1=>j1 x1
  |y1::ys1,i1,x1=>Fj (fun(x2:List Dy)=>
  Jz p_at j1 ys1 (i1+1) x2) (λj2=>
  Fj (fun(x3:List Dy)=>
  j2 x3) (λj3=>
  if decide (y1.At<=p_at) then
  Chk (Qi x1.length) (
  j3 (x1++[y1]))
  else
  j3 x1))
def It(x1:List Dy)(j4:(List Int)->Option (List Int)):Nat->(List Int)->Int->Option (List Int)
  |0,_,_=>none
  |m1+1,x4,x5=>if decide (x5<(x1.length:Int)) then
  Fj (fun(x6:List Int)=>
  It x1 j4 m1 x6 (W (x5+1))) (λj5=>
  Option.bind (Jl 16 x5 x1) (λr1=>
  Fj (fun(x7:List Int)=>
  j5 x7) (λj6=>
  if r1 then
  Chk (Qi x4.length) (
  j6 (x4++[x5]))
  else
  j6 x4)))
  else
  j4 x4
def Qm(p_l:List Dy)(p_at:Int):Option (List Int):=
  Fj (fun(x1:List Dy)=>
  Fj (fun(x4:List Int)=>
  some x4) (λj4=>
  It x1 j4 (((x1.length:Int)-0).toNat+2) ([]:List Int) 0)) (λj1=>
  Jz p_at j1 p_l 0 ([]:List Dy))
def Nb(p_l:List Dy)(j1:(List Dy)->Option (List Dy)):List Int->Nat->(List Dy)->Option (List Dy)
  |[],_,x1=>j1 x1
  |y1::ys1,i1,x1=>Chk (inB y1 p_l.length) (
  Chk (Qi x1.length) (
  Nb p_l j1 ys1 (i1+1) (x1++[(nth p_l y1)])))
def Wk(p_l:List Dy)(p_at:Int):Option (List Dy):=
  Option.bind (Qm p_l p_at) (λr1=>
  Fj (fun(x1:List Dy)=>
  some x1) (λj1=>
  Nb p_l j1 r1 0 ([]:List Dy)))
def Kd(p_o:Dy)(p_a1:ByteArray)(p_a2:Dy):Bool:=
  (((decide (p_o.Race=p_a1)) && (decide (p_o.Who=p_a2.Who))) && ((decide (p_o.Kind=1))||(decide (p_o.Kind=2))))
def Gd(p_f_0:ByteArray)(p_f_1:Dy)(j1:Int):List Dy->Nat->Int
  |[],_=>j1
  |y1::ys1,i1=>if(Kd y1 p_f_0 p_f_1) then
  (i1:Int)
  else
  Gd p_f_0 p_f_1 j1 ys1 (i1+1)
def Mi(p_s:List Dy)(p_f_0:ByteArray)(p_f_1:Dy):Int:=
  Fj ((-1)) (λj1=>
  Gd p_f_0 p_f_1 j1 p_s 0)
def Hl(p_s:List Dy)(p_f_0:ByteArray)(p_f_1:Dy):Bool:=
  decide (0<=(Mi p_s p_f_0 p_f_1))
def Wc(p_a:Dy)(p_b:Dy):Int:=
  (Gm p_a.Who p_b.Who)
open Classical in
def Jg(p_x:List Dy):Option (List Dy):=if GB Wc p_x/\p_x.length<4611686018427387904 then some (Qj Wc p_x) else none
def Lp(r1:(List Dy))(p_race:ByteArray)(j1:(List Dy)->Option (List Dy)):List Dy->Nat->(List Dy)->Option (List Dy)
  |[],_,x1=>j1 x1
  |y1::ys1,i1,x1=>Fj (fun(x2:List Dy)=>
  Lp r1 p_race j1 ys1 (i1+1) x2) (λj2=>
  Chk (Zx (W ((i1:Int)+1)) (r1.length:Int) r1.length) (
  Fj (fun(x3:List Dy)=>
  j2 x3) (λj3=>
  if(((decide (y1.Kind=1)) && (decide (y1.Race=p_race))) && (!(Hl (cut r1 (W ((i1:Int)+1)) r1.length) p_race y1))) then
  Chk (Qi x1.length) (
  j3 (x1++[y1]))
  else
  j3 x1)))
def Rq(p_l:List Dy)(p_race:ByteArray)(p_at:Int):Option (List Dy):=
  Option.bind (Wk p_l p_at) (λr1=>
  Fj (fun(x1:List Dy)=>
  Option.bind (Jg x1) (λr2=>
  some r2)) (λj1=>
  Lp r1 p_race j1 r1 0 ([]:List Dy)))
def Ri(p_p:Ir)(p_l:List Dy)(p_race:ByteArray)(p_at:Int):Option Int:=
  if !((Ho p_p.Races p_race).2) then
  some 8
  else
  Option.bind (Rq p_l p_race p_at) (λr1=>
  if decide (300<(r1.length:Int)) then
  some 2
  else
  some 0)
def Mb(p_p:Ir)(p_l:List Dy)(p_at:Int)(j1:Option Int):List Eh->Nat->Option Int
  |[],_=>j1
  |y1::ys1,i1=>Option.bind (Ri p_p p_l y1.Key p_at) (λr1=>
  if !decide (r1=0) then
  some r1
  else
  Mb p_p p_l p_at j1 ys1 (i1+1))
def Pk(p_p:Ir)(p_l:List Dy)(p_at:Int):Option Int:=
  Fj (some 0) (λj1=>
  Mb p_p p_l p_at j1 p_p.Races 0)
def Sd(d:Dy)(race who:ByteArray):Bool:=((decide (d.Kind=3)) && (decide (d.Race=race))) && (decide (d.Who=who))
  def Pc (l:List Dy) (race who:ByteArray):List Nat->Dy×Bool
  |[]=>((Dy.mk An 0 0 0 An An An 0 0 An 0),false)
  |i::is=>if Sd (nth l (i:Int)) race who then(nth l (i:Int),true) else Pc l race who is
def Xg(l:List Dy)(race who:ByteArray)(at_:Int):Option (Dy×Bool):=
  Option.bind (Wk l at_) λf=>some (Pc f race who (Xi f.length))
def He(p_x:Ec):Bool:=
  ((decide (0<p_x.Time)) && (decide (p_x.Fault=0)))
def Nc(p_a:Ec)(p_b:Ec):Int:=
  if !decide ((He p_a)=(He p_b)) then
  if(He p_a) then
  (-1)
  else
  1
  else
  (Qs (W (p_a.Rank-p_b.Rank)))
def Eu(p_a:Int)(j2:(List Ec)->Option (List Ec)):Nat->(List Ec)->Int->Option (List Ec)
  |0,_,_=>none
  |m2+1,x3,x4=>Fj (fun(x5:Bool)=>
  if x5 then
  Chk (inB (W (x4-1)) x3.length) (
  Chk (inB x4 x3.length) (
  Chk (inB x4 x3.length) (
  Chk (inB (W (x4-1)) (x3.set x4.toNat (Ec.mk ((nth x3 (W (x4-1))).Rank) ((nth x3 (W (x4-1))).Who) ((nth x3 (W (x4-1))).Club) ((nth x3 (W (x4-1))).Time) ((nth x3 (W (x4-1))).Fault) ((nth x3 (W (x4-1))).Points))).length) (
  Eu p_a j2 m2 ((x3.set x4.toNat (Ec.mk ((nth x3 (W (x4-1))).Rank) ((nth x3 (W (x4-1))).Who) ((nth x3 (W (x4-1))).Club) ((nth x3 (W (x4-1))).Time) ((nth x3 (W (x4-1))).Fault) ((nth x3 (W (x4-1))).Points))).set ((W (x4-1)).toNat) (Ec.mk ((nth x3 x4).Rank) ((nth x3 x4).Who) ((nth x3 x4).Club) ((nth x3 x4).Time) ((nth x3 x4).Fault) ((nth x3 x4).Points))) (W (x4-1))))))
  else
  j2 x3) (λj3=>
  if decide (p_a<x4) then
  Chk (inB x4 x3.length) (
  Chk (inB (W (x4-1)) x3.length) (
  j3 (decide ((Nc (Ec.mk ((nth x3 x4).Rank) ((nth x3 x4).Who) ((nth x3 x4).Club) ((nth x3 x4).Time) ((nth x3 x4).Fault) ((nth x3 x4).Points)) (Ec.mk ((nth x3 (W (x4-1))).Rank) ((nth x3 (W (x4-1))).Who) ((nth x3 (W (x4-1))).Club) ((nth x3 (W (x4-1))).Time) ((nth x3 (W (x4-1))).Fault) ((nth x3 (W (x4-1))).Points)))<0))))
  else
  j3 false)
def Fi(p_b:Int)(p_a:Int)(j1:(List Ec)->Option (List Ec)):Nat->(List Ec)->Int->Option (List Ec)
  |0,_,_=>none
  |m1+1,x1,x2=>if decide (x2<p_b) then
  Fj (fun(x3:List Ec)=>
  Fi p_b p_a j1 m1 x3 (W (x2+1))) (λj2=>
  Eu p_a j2 ((x2-p_a).toNat+2) x1 x2)
  else
  j1 x1
def Ht(p_data:List Ec)(p_a:Int)(p_b:Int):Option (List Ec):=
  Fj (fun(x1:List Ec)=>
  some x1) (λj1=>
  Fi p_b p_a j1 ((p_b-(W (p_a+1))).toNat+2) p_data (W (p_a+1)))
def Fx(p_n:Int)(j1:(List Ec)->Int->Option (List Ec)):Nat->(List Ec)->Int->Int->Option (List Ec)
  |0,_,_,_=>none
  |m1+1,x1,x2,x3=>if decide (x3<=p_n) then
  Option.bind (Ht x1 x2 x3) (λr1=>
  Fx p_n j1 m1 r1 x3 (W (x3+20)))
  else
  j1 x1 x2
def Hm(p_n:Int)(j3:Int->Option (List Ec)):Nat->Int->Int->Option (List Ec)
  |0,_,_=>none
  |_+1,x5,x6=>if decide (x6<=p_n) then
  none
  else
  j3 x5
def Fy(p_n:Int)(j2:Option (List Ec)):Nat->Int->Option (List Ec)
  |0,_=>none
  |m2+1,x4=>if decide (x4<p_n) then
  Fj (fun(x5:Int)=>
  if decide ((W (x5+x4))<p_n) then
  none
  else
  Fy p_n j2 m2 (W (x4*2))) (λj3=>
  Hm p_n j3 ((p_n-(W (2*x4))).toNat+2) 0 (W (2*x4)))
  else
  j2
def Kt(p_data:List Ec)(p_n:Int):Option (List Ec):=
  Fj (fun(x1:List Ec) (x2:Int)=>
  Option.bind (Ht x1 x2 p_n) (λr2=>
  Fj (some r2) (λj2=>
  Fy p_n j2 ((p_n-20).toNat+2) 20))) (λj1=>
  Fx p_n j1 ((p_n-20).toNat+2) p_data 0 20)
def Im(p_x:List Ec):Option (List Ec):=
  Option.bind (Kt p_x (p_x.length:Int)) (λr1=>
  some r1)
def La(p_l:List Dy)(p_race:ByteArray)(p_at:Int)(j1:(List Ec)->Option (List Ec)):List Dy->Nat->(List Ec)->Option (List Ec)
  |[],_,x1=>j1 x1
  |y1::ys1,i1,x1=>Fj (fun(x2:List Ec)=>
  La p_l p_race p_at j1 ys1 (i1+1) x2) (λj2=>
  Option.bind (Xg p_l p_race y1.Who p_at) (λr2=>
  Fj (fun(x3:List Ec)=>
  j2 x3) (λj3=>
  if r2.2 then
  Chk (Qi x1.length) (
  j3 (x1++[(Ec.mk 0 y1.Who y1.Club r2.1.Time r2.1.Fault (Eb.mk 0 1))]))
  else
  j3 x1)))
def Lb(x4:List Ec)(i2:Nat)(j6:(List Ec)->Option (List Ec)):List Ec->Nat->(List Ec)->Option (List Ec)
  |[],_,x6=>j6 x6
  |_::ys3,i3,x6=>Fj (fun(x7:List Ec)=>
  Lb x4 i2 j6 ys3 (i3+1) x7) (λj7=>
  Chk (inB (i3:Int) x6.length) (
  Fj (fun(x8:List Ec)=>
  j7 x8) (λj8=>
  if((He (Ec.mk ((nth x6 (i3:Int)).Rank) ((nth x6 (i3:Int)).Who) ((nth x6 (i3:Int)).Club) ((nth x6 (i3:Int)).Time) ((nth x6 (i3:Int)).Fault) ((nth x6 (i3:Int)).Points))) && (decide (((nth x6 (i3:Int)).Time)<((nth x4 (i2:Int)).Time)))) then
  Chk (inB (i2:Int) x6.length) (
  Chk (inB (i2:Int) x6.length) (
  j8 (x6.set ((i2:Int).toNat) (Ec.mk (W (((nth x6 (i2:Int)).Rank)+1)) ((nth x6 (i2:Int)).Who) ((nth x6 (i2:Int)).Club) ((nth x6 (i2:Int)).Time) ((nth x6 (i2:Int)).Fault) ((nth x6 (i2:Int)).Points)))))
  else
  j8 x6)))
def Kf(j4:(List Ec)->Option (List Ec)):List Ec->Nat->(List Ec)->Option (List Ec)
  |[],_,x4=>j4 x4
  |_::ys2,i2,x4=>Fj (fun(x5:List Ec)=>
  Kf j4 ys2 (i2+1) x5) (λj5=>
  Chk (inB (i2:Int) x4.length) (
  if !(He (Ec.mk ((nth x4 (i2:Int)).Rank) ((nth x4 (i2:Int)).Who) ((nth x4 (i2:Int)).Club) ((nth x4 (i2:Int)).Time) ((nth x4 (i2:Int)).Fault) ((nth x4 (i2:Int)).Points))) then
  j5 x4
  else
  Chk (inB (i2:Int) x4.length) (
  Fj (fun(x6:List Ec)=>
  j5 x6) (λj6=>
  Lb x4 i2 j6 (x4.set ((i2:Int).toNat) (Ec.mk 1 ((nth x4 (i2:Int)).Who) ((nth x4 (i2:Int)).Club) ((nth x4 (i2:Int)).Time) ((nth x4 (i2:Int)).Fault) ((nth x4 (i2:Int)).Points))) 0 (x4.set ((i2:Int).toNat) (Ec.mk 1 ((nth x4 (i2:Int)).Who) ((nth x4 (i2:Int)).Club) ((nth x4 (i2:Int)).Time) ((nth x4 (i2:Int)).Fault) ((nth x4 (i2:Int)).Points)))))))
def Vi(p_p:Ir)(p_l:List Dy)(p_race:ByteArray)(p_at:Int):Option (List Ec):=
  Option.bind (Rq p_l p_race p_at) (λr1=>
  Fj (fun(x1:List Ec)=>
  Fj (fun(x4:List Ec)=>
  Option.bind (Im x4) (λr3=>
  some r3)) (λj4=>
  Kf j4 x1 0 x1)) (λj1=>
  La p_l p_race p_at j1 r1 0 ([]:List Ec)))
def Mn(p_s:Ea):Int:=
  if decide (p_s.Rank=0) then
  301
  else
  p_s.Rank
def Oh(p_a:Ea)(p_b:Ea):Int:=
  if !decide (p_a.Race=p_b.Race) then
  (Gm p_a.Race p_b.Race)
  else
  if !decide ((Mn p_a)=(Mn p_b)) then
  (Qs (W ((Mn p_a)-(Mn p_b))))
  else
  (Gm p_a.Who p_b.Who)
def Ge(p_l:List Ea)(j1:Option Int):List Ea->Nat->Option Int
  |[],_=>j1
  |y1::ys1,i1=>Option.bind (Pj y1.Race) (λr1=>
  Fj (fun(c1:Bool)=>
  Fj (fun(c2:Bool)=>
  if c2 then
  some 5
  else
  if !(Ik y1.Rank 0 300) then
  some 1
  else
  Fj (fun(x1:Bool)=>
  if x1 then
  some 7
  else
  Ge p_l j1 ys1 (i1+1)) (λj5=>
  if decide (0<(i1:Int)) then
  Chk (inB (W ((i1:Int)-1)) p_l.length) (
  j5 (decide (0<=(Oh (nth p_l (W ((i1:Int)-1))) y1))))
  else
  j5 false)) (λj3=>
  if c1 then j3 (c1||true) else Fj (fun(c3:Bool)=>
  j3 (c1||c3)) (λj4=>
  if(!decide (y1.Club=An)) then Option.bind (Pj y1.Club) (λr3=>
  j4 ((!decide (y1.Club=An)) && (!r3))) else j4 ((!decide (y1.Club=An)) && true)))) (λj2=>
  if(!r1) then j2 ((!r1)||true) else Option.bind (Pj y1.Who) (λr2=>
  j2 ((!r1)||(!r2)))))
def Jb(y2:Ea)(i2:Nat)(j7:Bool->Bool->Int->Int->Option Int):List Ea->Nat->Bool->Bool->Int->Int->Option Int
  |[],_,x6,x7,x8,x9=>j7 x6 x7 x8 x9
  |y3::ys3,i3,x6,x7,x8,x9=>Fj (fun(x10:Bool) (x11:Bool) (x12:Int) (x13:Int)=>
  Jb y2 i2 j7 ys3 (i3+1) x10 x11 x12 x13) (λj8=>
  if !decide (y3.Race=y2.Race) then
  j8 x6 x7 x8 x9
  else
  Fj (fun(x14:Int)=>
  Fj (fun(x15:Int)=>
  j8 (x6||((!decide ((i3:Int)=(i2:Int))) && (decide (y3.Who=y2.Who)))) (x7||(!decide (y3.Relay=y2.Relay))) x14 x15) (λj10=>
  if decide (y3.Rank=y2.Rank) then
  j10 (W (x9+1))
  else
  j10 x9)) (λj9=>
  if((decide (0<y3.Rank)) && (decide (y3.Rank<y2.Rank))) then
  j9 (W (x8+1))
  else
  j9 x8))
def Jc(p_l:List Ea)(j6:Bool->Bool->Bool->Bool->Option Int):List Ea->Nat->Bool->Bool->Bool->Bool->Option Int
  |[],_,x2,x3,x4,x5=>j6 x2 x3 x4 x5
  |y2::ys2,i2,x2,x3,x4,x5=>Fj (fun(x6:Bool) (x7:Bool) (x8:Int) (x9:Int)=>
  Jc p_l j6 ys2 (i2+1) x6 x7 (x4||((decide (0<y2.Rank)) && (!decide (y2.Rank=(W (x8+1)))))) (x5||((decide (0<y2.Rank)) && (decide (10<x9))))) (λj7=>
  Jb y2 i2 j7 p_l 0 x2 x3 0 0)
def Kg(j11:Option Int):List Hd->Nat->Option Int
  |[],_=>j11
  |y4::ys4,i4=>if y4.is_ then
  some y4.e_
  else
  Kg j11 ys4 (i4+1)
def Oi(p_l:List Ea):Option Int:=
  if decide (2000<(p_l.length:Int)) then
  some 2
  else
  Fj (Fj (fun(x2:Bool) (x3:Bool) (x4:Bool) (x5:Bool)=>
  Fj (some 0) (λj11=>
  Kg j11 ([(Hd.mk x2 6),(Hd.mk x3 3),(Hd.mk x4 16),(Hd.mk x5 12)]:List Hd) 0)) (λj6=>
  Jc p_l j6 p_l 0 false false false false)) (λj1=>
  Ge p_l j1 p_l 0)
def Gq(p_s:Ea):Bool:=
  ((decide (0<p_s.Rank)) && (!decide (p_s.Club=An)))
def Ka(p_v:Ea)(j1:Int):List Ea->Nat->Int
  |[],_=>j1
  |y1::ys1,i1=>if decide (p_v=y1) then
  (i1:Int)
  else
  Ka p_v j1 ys1 (i1+1)
def Wd(p_s:List Ea)(p_v:Ea):Int:=
  Fj ((-1)) (λj1=>
  Ka p_v j1 p_s 0)
def Qh(p_s:List Ea)(p_v:Ea):Bool:=
  decide (0<=(Wd p_s p_v))
def Nj(j1:Int->Option Eb):Nat->Int->Int->Option Eb
  |0,_,_=>none
  |m1+1,x1,x2=>if !decide (x2=0) then
  Chk (!decide (x2=0)) (
  Nj j1 m1 x2 (Int.tmod x1 x2))
  else
  j1 x1
def Qd(p_num:Int)(p_den:Int):Option Eb:=
  Fj (fun(x1:Int)=>
  Fj (fun(x3:Int)=>
  Chk (!decide (x3=0)) (
  Chk (!decide (x3=0)) (
  some (Eb.mk (W (Int.tdiv p_num x3)) (W (Int.tdiv p_den x3)))))) (λj2=>
  if decide (x1<0) then
  j2 (W (0-x1))
  else
  j2 x1)) (λj1=>
  Nj j1 4611686018427387904 p_num p_den)
def Gx(p_x:Ea)(p_t:Jn)(j1:(List (ByteArray×Int))->(List Ea)->Option Eb):List Ea->Nat->(List (ByteArray×Int))->(List Ea)->Option Eb
  |[],_,x1,x2=>j1 x1 x2
  |y1::ys1,i1,x1,x2=>Fj (fun(x3:List (ByteArray×Int)) (x4:List Ea)=>
  Gx p_x p_t j1 ys1 (i1+1) x3 x4) (λj2=>
  if(((!decide (y1.Race=p_x.Race))||(decide (y1.Rank=0)))||(decide (y1.Club=An))) then
  j2 x1 x2
  else
  Fj (fun(x5:List Ea)=>
  j2 (Hv x1 y1.Club (W ((Em x1 y1.Club 0)+1))) x5) (λj3=>
  if((decide (p_t.Most=0))||(decide ((Em (Hv x1 y1.Club (W ((Em x1 y1.Club 0)+1))) y1.Club 0)<=p_t.Most))) then
  Chk (Qi x2.length) (
  j3 (x2++[y1]))
  else
  j3 x2))
def Kn(p_x:Ea)(p_t:Jn)(j4:Int->Int->Option Eb):List Ea->Nat->Int->Int->Option Eb
  |[],_,x6,x7=>j4 x6 x7
  |y2::ys2,i2,x6,x7=>Fj (fun(x8:Int) (x9:Int)=>
  Kn p_x p_t j4 ys2 (i2+1) x8 x9) (λj5=>
  Fj (fun(x10:Int) (x11:Int)=>
  j5 x10 x11) (λj6=>
  if decide (y2.Rank=p_x.Rank) then
  Fj (fun(x12:Int)=>
  j6 x12 (W (x7+1))) (λj7=>
  if decide ((i2:Int)<(p_t.Points.length:Int)) then
  Chk (inB (i2:Int) p_t.Points.length) (
  j7 (W (x6+(nth p_t.Points (i2:Int)))))
  else
  j7 x6)
  else
  j6 x6 x7))
def Ob(p_t:Jn)(p_l:List Ea)(p_x:Ea):Option Eb:=
  Fj (fun(x1:List (ByteArray×Int)) (x2:List Ea)=>
  if !(Qh x2 p_x) then
  some (Eb.mk 0 1)
  else
  Fj (fun(x6:Int) (x7:Int)=>
  Fj (fun(x13:Int)=>
  Option.bind (Qd x13 x7) (λr1=>
  some r1)) (λj8=>
  if p_x.Relay then
  j8 (W (x6*p_t.Relay))
  else
  j8 x6)) (λj4=>
  Kn p_x p_t j4 x2 0 0 0)) (λj1=>
  Gx p_x p_t j1 p_l 0 ([]:List (ByteArray×Int)) ([]:List Ea))
def Ki(p_race:ByteArray)(p_p:Ir)(j1:(List Ea)->Option ((List Ec)×Int)):List Ec->Nat->(List Ea)->Option ((List Ec)×Int)
  |[],_,x1=>j1 x1
  |y1::ys1,i1,x1=>Chk (Qi x1.length) (
  Ki p_race p_p j1 ys1 (i1+1) (x1++[(Ea.mk p_race y1.Who y1.Club y1.Rank (decide (1<(((Ho p_p.Races p_race).1).Legs))))]))
def Jh(p_p:Ir)(x1:List Ea)(j2:(List Ec)->Option ((List Ec)×Int)):List Ea->Nat->(List Ec)->Option ((List Ec)×Int)
  |[],_,x2=>j2 x2
  |y2::ys2,i2,x2=>Fj (fun(x3:List Ec)=>
  Jh p_p x1 j2 ys2 (i2+1) x3) (λj3=>
  Fj (fun(x4:List Ec)=>
  j3 x4) (λj4=>
  if(Gq y2) then
  Option.bind (Ob p_p.Table x1 y2) (λr3=>
  Chk (inB (i2:Int) x2.length) (
  j4 (x2.set ((i2:Int).toNat) (Ec.mk ((nth x2 (i2:Int)).Rank) ((nth x2 (i2:Int)).Who) ((nth x2 (i2:Int)).Club) ((nth x2 (i2:Int)).Time) ((nth x2 (i2:Int)).Fault) r3))))
  else
  j4 x2))
def Pw(p_p:Ir)(p_l:List Dy)(p_race:ByteArray)(p_at:Int):Option ((List Ec)×Int):=
  Option.bind (Vi p_p p_l p_race p_at) (λr1=>
  Fj (fun(x1:List Ea)=>
  Option.bind (Oi x1) (λr2=>
  if !decide (r2=0) then
  some (([]:List Ec),r2)
  else
  Fj (fun(x2:List Ec)=>
  some (x2,0)) (λj2=>
  Jh p_p x1 j2 x1 0 r1))) (λj1=>
  Ki p_race p_p j1 r1 0 ([]:List Ea)))
def Ti(l:List ByteArray):List ByteArray:=((l.map λb=>b.data.toList).mergeSort λx y=>decide (x<=y)).map λb=>⟨b.toArray⟩
def Wt(p_x:List ByteArray):Option (List ByteArray):=Chk (decide (p_x.length<4611686018427387904)) (some (Ti p_x))
def Ku(p_s:List ByteArray)(x1:Int)(j2:(List ByteArray)->Int->Option (List ByteArray)):Nat->(List ByteArray)->Int->Int->Option (List ByteArray)
  |0,_,_,_=>none
  |m2+1,x2,x3,x4=>if decide (x4<(((p_s.length:Int).toNat-x1.toNat:Nat):Int)) then
  Fj (fun(x5:List ByteArray) (x6:Int)=>
  Ku p_s x1 j2 m2 x5 x6 (W (x4+1))) (λj3=>
  Chk (inB x4 ((p_s.length:Int).toNat-x1.toNat)) (
  Chk (inB (W (x4-1)) ((p_s.length:Int).toNat-x1.toNat)) (
  Fj (fun(x7:List ByteArray) (x8:Int)=>
  j3 x7 x8) (λj4=>
  if !decide ((nth (cut x2 x1 (p_s.length:Int)) x4)=(nth (cut x2 x1 (p_s.length:Int)) (W (x4-1)))) then
  Chk (inB x4 ((p_s.length:Int).toNat-x1.toNat)) (
  Chk (inB x3 x2.length) (
  j4 (x2.set x3.toNat (nth (cut x2 x1 (p_s.length:Int)) x4)) (W (x3+1))))
  else
  j4 x2 x3))))
  else
  j2 x2 x3
def Jj(p_s:List ByteArray)(j1:Option (List ByteArray)):Nat->Int->Option (List ByteArray)
  |0,_=>none
  |m1+1,x1=>if decide (x1<(p_s.length:Int)) then
  Chk (inB x1 p_s.length) (
  Chk (inB (W (x1-1)) p_s.length) (
  if decide ((nth p_s x1)=(nth p_s (W (x1-1)))) then
  Chk (Zx x1 (p_s.length:Int) p_s.length) (
  Fj (fun(x2:List ByteArray) (x3:Int)=>
  Chk (Zx x3 (x2.length:Int) x2.length) (
  Chk (Zx 0 x3 (clr x2 x3 (x2.length:Int) An).length) (
  some (cut (clr x2 x3 (x2.length:Int) An) (0:Int) x3)))) (λj2=>
  Ku p_s x1 j2 (((((p_s.length:Int).toNat-x1.toNat:Nat):Int)-1).toNat+2) p_s x1 1))
  else
  Jj p_s j1 m1 (W (x1+1))))
  else
  j1
def So(p_s:List ByteArray):Option (List ByteArray):=
  if decide ((p_s.length:Int)<2) then
  some p_s
  else
  Fj (some p_s) (λj1=>
  Jj p_s j1 (((p_s.length:Int)-1).toNat+2) 1)
def Xh(p_a:Eb)(p_b:Eb):Option Eb:=
  Option.bind (Qd (W ((W (p_a.Num*p_b.Den))+(W (p_b.Num*p_a.Den)))) (W (p_a.Den*p_b.Den))) (λr1=>
  some r1)
def Kb(p_name:ByteArray)(j1:Int->Int->Option Eb):List Ec->Nat->Int->Int->Option Eb
  |[],_,x1,x2=>j1 x1 x2
  |y1::ys1,i1,x1,x2=>Fj (fun(x3:Int) (x4:Int)=>
  Kb p_name j1 ys1 (i1+1) x3 x4) (λj2=>
  Fj (fun(x5:Int) (x6:Int)=>
  j2 x5 x6) (λj3=>
  if decide (y1.Club=p_name) then
  Option.bind (Xh (Eb.mk x1 x2) y1.Points) (λr1=>
  j3 r1.Num r1.Den)
  else
  j3 x1 x2))
def Tx(p_name:ByteArray)(p_a1:List Ec):Option Eb:=
  Fj (fun(x1:Int) (x2:Int)=>
  some (Eb.mk x1 x2)) (λj1=>
  Kb p_name j1 p_a1 0 0 1)
def Gn(p_of_0:List Ec)(j1:(List Et)->Option (List Et)):List ByteArray->Nat->(List Et)->Option (List Et)
  |[],_,x1=>j1 x1
  |y1::ys1,i1,x1=>Option.bind (Tx y1 p_of_0) (λr3=>
  Chk (Qi x1.length) (
  Gn p_of_0 j1 ys1 (i1+1) (x1++[(Et.mk y1 r3)])))
def Mq(p_names:List ByteArray)(p_of_0:List Ec):Option (List Et):=
  Option.bind (Wt p_names) (λr1=>
  Option.bind (So r1) (λr2=>
  Fj (fun(x1:List Et)=>
  some x1) (λj1=>
  Gn p_of_0 j1 r2 0 ([]:List Et))))
def Lq(j2:(List ByteArray)->Option ((List Et)×Int)):List Dy->Nat->(List ByteArray)->Option ((List Et)×Int)
  |[],_,x3=>j2 x3
  |y2::ys2,i2,x3=>Fj (fun(x4:List ByteArray)=>
  Lq j2 ys2 (i2+1) x4) (λj3=>
  Fj (fun(x5:List ByteArray)=>
  j3 x5) (λj4=>
  if !decide (y2.Club=An) then
  Chk (Qi x3.length) (
  j4 (x3++[y2.Club]))
  else
  j4 x3))
def Lt(p_l:List Dy)(p_at:Int)(p_p:Ir)(j1:(List Ec)->(List ByteArray)->Option ((List Et)×Int)):List Eh->Nat->(List Ec)->(List ByteArray)->Option ((List Et)×Int)
  |[],_,x1,x2=>j1 x1 x2
  |y1::ys1,i1,x1,x2=>Option.bind (Rq p_l y1.Key p_at) (λr1=>
  Fj (fun(x3:List ByteArray)=>
  Option.bind (Pw p_p p_l y1.Key p_at) (λr2=>
  if !decide (r2.2=0) then
  some (([]:List Et),r2.2)
  else
  Chk (decide (x1.length+r2.1.length<1073741824)) (
  Lt p_l p_at p_p j1 ys1 (i1+1) (x1++r2.1) x3))) (λj2=>
  Lq j2 r1 0 x2))
def Ud(p_p:Ir)(p_l:List Dy)(p_at:Int):Option ((List Et)×Int):=
  Fj (fun(x1:List Ec) (x2:List ByteArray)=>
  Option.bind (Mq x2 x1) (λr3=>
  some (r3,0))) (λj1=>
  Lt p_l p_at p_p j1 p_p.Races 0 ([]:List Ec) ([]:List ByteArray))
def Kj(p_l:List Dy)(y1:Eh)(p_at:Int)(j2:(List Ig)->Option (List Ig)):List Dy->Nat->(List Ig)->Option (List Ig)
  |[],_,x2=>j2 x2
  |y2::ys2,i2,x2=>Fj (fun(x3:List Ig)=>
  Kj p_l y1 p_at j2 ys2 (i2+1) x3) (λj3=>
  Option.bind (Xg p_l y1.Key y2.Who p_at) (λr2=>
  Fj (fun(x4:List Ig)=>
  j3 x4) (λj4=>
  if !r2.2 then
  Chk (Qi x2.length) (
  j4 (x2++[(Ig.mk y1.Key y2.Who)]))
  else
  j4 x2)))
def Jr(p_l:List Dy)(p_at:Int)(j1:(List Ig)->Option (List Ig)):List Eh->Nat->(List Ig)->Option (List Ig)
  |[],_,x1=>j1 x1
  |y1::ys1,i1,x1=>Option.bind (Rq p_l y1.Key p_at) (λr1=>
  Fj (fun(x2:List Ig)=>
  Jr p_l p_at j1 ys1 (i1+1) x2) (λj2=>
  Kj p_l y1 p_at j2 r1 0 x1))
def Ss(p_p:Ir)(p_l:List Dy)(p_at:Int):Option (List Ig):=
  Fj (fun(x1:List Ig)=>
  some x1) (λj1=>
  Jr p_l p_at j1 p_p.Races 0 ([]:List Ig))
def Nd(p_s2:List Ec)(j1:Option Bool):List Ec->Nat->Option Bool
  |[],_=>j1
  |y1::ys1,i1=>Chk (inB (i1:Int) p_s2.length) (
  if !decide (y1=(Ec.mk ((nth p_s2 (i1:Int)).Rank) ((nth p_s2 (i1:Int)).Who) ((nth p_s2 (i1:Int)).Club) ((nth p_s2 (i1:Int)).Time) ((nth p_s2 (i1:Int)).Fault) ((nth p_s2 (i1:Int)).Points))) then
  some false
  else
  Nd p_s2 j1 ys1 (i1+1))
def Vj(p_s1:List Ec)(p_s2:List Ec):Option Bool:=
  if !decide ((p_s1.length:Int)=(p_s2.length:Int)) then
  some false
  else
  Fj (some true) (λj1=>
  Nd p_s2 j1 p_s1 0)
def Mm(p_s2:List Et)(j1:Option Bool):List Et->Nat->Option Bool
  |[],_=>j1
  |y1::ys1,i1=>Chk (inB (i1:Int) p_s2.length) (
  if !decide (y1=(Et.mk ((nth p_s2 (i1:Int)).Key) ((nth p_s2 (i1:Int)).Points))) then
  some false
  else
  Mm p_s2 j1 ys1 (i1+1))
def Um(p_s1:List Et)(p_s2:List Et):Option Bool:=
  if !decide ((p_s1.length:Int)=(p_s2.length:Int)) then
  some false
  else
  Fj (some true) (λj1=>
  Mm p_s2 j1 p_s1 0)
def Nf(p_s2:List Ig)(j1:Option Bool):List Ig->Nat->Option Bool
  |[],_=>j1
  |y1::ys1,i1=>Chk (inB (i1:Int) p_s2.length) (
  if !decide (y1=(nth p_s2 (i1:Int))) then
  some false
  else
  Nf p_s2 j1 ys1 (i1+1))
def Vn(p_s1:List Ig)(p_s2:List Ig):Option Bool:=
  if !decide ((p_s1.length:Int)=(p_s2.length:Int)) then
  some false
  else
  Fj (some true) (λj1=>
  Nf p_s2 j1 p_s1 0)
def Qz(j1:(List Jt)->Option (List Jt)):List Dy->Nat->(List Jt)->Option (List Jt)
  |[],_,x1=>j1 x1
  |y1::ys1,i1,x1=>Chk (Qi x1.length) (
  Qz j1 ys1 (i1+1) (x1++[(Jt.mk y1.Who y1.Time)]))
def CN(p_s_p:Ir)(p_s_deeds:List Dy)(p_race:ByteArray):Option (List Jt):=
  Option.bind (Sw p_s_p p_s_deeds p_race) (λr1=>
  Fj (fun(x1:List Jt)=>
  some x1) (λj1=>
  Qz j1 r1 0 ([]:List Jt)))
def BG(p_p:Ir)(p_l:List Dy)(p_race:ByteArray)(p_at:Int):Option ((List Jt)×Int):=
  Option.bind (AO p_p p_l p_race p_at) (λr1=>
  if !decide (r1.2.2=0) then
  some (([]:List Jt),r1.2.2)
  else
  Option.bind (r1.1) (λr2=>
  Option.bind (CN r2.p_ r2.deeds_ p_race) (λr3=>
  some (r3,0))))
def Zo:Option Bool:=
  Option.bind (BG (Ir.mk ([(Eh.mk k_r 50 1 50 1 0 0 0)]:List Eh) (Jn.mk ([]:List Int) 1 0) (Qq.mk 1 1 0)) [(Dy.mk k_s 1 0 1 k_a An k_r 5 0 An 0)] k_r 0) (λr1=>
  Fj (fun(c1:Bool)=>
  some c1) (λj1=>
  if((decide (r1.2=0)) && (decide ((r1.1.length:Int)=1))) then Chk (inB 0 r1.1.length) (
  j1 (((decide (r1.2=0)) && (decide ((r1.1.length:Int)=1))) && (decide (((nth r1.1 0).Time)=5)))) else j1 (((decide (r1.2=0)) && (decide ((r1.1.length:Int)=1))) && true)))
def Vo(p_l:List Int):Option Bool:=
  Option.bind (Wy p_l 0) (λr1=>
  Option.bind (Ug p_l r1.2 16) (λr2=>
  Option.bind (Wz p_l r2.2) (λr3=>
  Option.bind (Ps p_l r3.2 [Oc,Oc,Xj,k_zz]) (λr4=>
  Option.bind (Ws r1.1 r2.1 r4.1 r3.1) (λr5=>
  Option.bind (AG r1.1 r2.1 r3.1) (λr6=>
  Option.bind (Yg r1.1 r2.1 r3.1) (λr7=>
  Option.bind (Pf r1.1 r2.1 r3.1) (λr8=>
  Fj (fun(x1:Int) (x2:Int) (x3:Int)=>
  Fj (fun(x4:Int) (x5:List Ec)=>
  Fj (fun(x6:Int) (x7:List Et)=>
  Fj (fun(x8:List Ig)=>
  Fj (fun(c1:Bool)=>
  Fj (fun(c2:Bool)=>
  Fj (fun(c3:Bool)=>
  Fj (fun(c4:Bool)=>
  some c4) (λj8=>
  if c3 then Option.bind (Zo) (λr17=>
  j8 (c3 && r17)) else j8 (c3 && true))) (λj7=>
  if(c2 && (decide (r7.2=x3))) then Option.bind (Vn r7.1 x8) (λr16=>
  j7 ((c2 && (decide (r7.2=x3))) && r16)) else j7 ((c2 && (decide (r7.2=x3))) && true))) (λj6=>
  if(c1 && (decide (r6.2=x6))) then Option.bind (Um r6.1 x7) (λr15=>
  j6 ((c1 && (decide (r6.2=x6))) && r15)) else j6 ((c1 && (decide (r6.2=x6))) && true))) (λj5=>
  if(decide (r5.2=x4)) then Option.bind (Vj r5.1 x5) (λr14=>
  j5 ((decide (r5.2=x4)) && r14)) else j5 ((decide (r5.2=x4)) && true))) (λj4=>
  if decide (x3=0) then
  Option.bind (Ss r1.1 r2.1 r3.1) (λr13=>
  j4 r13)
  else
  j4 ([]:List Ig))) (λj3=>
  if decide (x2=0) then
  Option.bind (Ud r1.1 r2.1 r3.1) (λr12=>
  j3 r12.2 r12.1)
  else
  j3 x2 ([]:List Et))) (λj2=>
  if decide (x1=0) then
  Option.bind (Pw r1.1 r2.1 r4.1 r3.1) (λr11=>
  j2 r11.2 r11.1)
  else
  j2 x1 ([]:List Ec))) (λj1=>
  if decide (r8=0) then
  Option.bind (Ri r1.1 r2.1 r4.1 r3.1) (λr9=>
  Option.bind (Pk r1.1 r2.1 r3.1) (λr10=>
  j1 r9 r10 r10))
  else
  j1 r8 r8 r8)))))))))
theorem twin_eqs:True:=by
  have h:=@Km.eq_def;clear h;have h:=@Km.eq_1;clear h;have h:=@Km.eq_2;clear h;have h:=@Ly.eq_def;clear h;have h:=@Ly.eq_1;clear h;have h:=@Ly.eq_2;clear h;have h:=@Kq.eq_def;clear h;have h:=@Kq.eq_1;clear h;have h:=@Kq.eq_2;clear h;have h:=@Mp.eq_def;clear h;have h:=@Mp.eq_1;clear h;have h:=@Mp.eq_2;clear h;have h:=@Lz.eq_def;clear h;have h:=@Lz.eq_1;clear h;have h:=@Lz.eq_2;clear h;have h:=@Ex.eq_def;clear h;have h:=@Ex.eq_1;clear h;have h:=@Ex.eq_2;clear h;have h:=@Fk.eq_def;clear h;have h:=@Fk.eq_1;clear h;have h:=@Fk.eq_2;clear h;have h:=@Gh.eq_def;clear h;have h:=@Gh.eq_1;clear h;have h:=@Gh.eq_2;clear h;have h:=@Hr.eq_def;clear h;have h:=@Hr.eq_1;clear h;have h:=@Hr.eq_2;clear h;have h:=@Gi.eq_def;clear h;have h:=@Gi.eq_1;clear h;have h:=@Gi.eq_2;clear h;have h:=@Qb.eq_def;clear h;have h:=@Qb.eq_1;clear h;have h:=@Qb.eq_2;clear h;have h:=@Gp.eq_def;clear h;have h:=@Gp.eq_1;clear h;have h:=@Gp.eq_2;clear h;have h:=@Ma.eq_def;clear h;have h:=@Ma.eq_1;clear h;have h:=@Ma.eq_2;clear h;have h:=@Od.eq_def;clear h;have h:=@Od.eq_1;clear h;have h:=@Od.eq_2;clear h;have h:=@Pa.eq_def;clear h;have h:=@Pa.eq_1;clear h;have h:=@Pa.eq_2;clear h;have h:=@Jd.eq_def;clear h;have h:=@Jd.eq_1;clear h;have h:=@Jd.eq_2;clear h;have h:=@Lj.eq_def;clear h;have h:=@Lj.eq_1;clear h;have h:=@Lj.eq_2;clear h;have h:=@Mu.eq_def;clear h;have h:=@Mu.eq_1;clear h;have h:=@Mu.eq_2;clear h;have h:=@Ot.eq_def;clear h;have h:=@Ot.eq_1;clear h;have h:=@Ot.eq_2;clear h;have h:=@Re.eq_def;clear h;have h:=@Re.eq_1;clear h;have h:=@Re.eq_2;clear h;have h:=@Fz.eq_def;clear h;have h:=@Fz.eq_1;clear h;have h:=@Fz.eq_2;clear h;have h:=@Ns.eq_def;clear h;have h:=@Ns.eq_1;clear h;have h:=@Ns.eq_2;clear h;have h:=@Pb.eq_def;clear h;have h:=@Pb.eq_1;clear h;have h:=@Pb.eq_2;clear h;have h:=@Ru.eq_def;clear h;have h:=@Ru.eq_1;clear h;have h:=@Ru.eq_2;clear h;have h:=@Ni.eq_def;clear h;have h:=@Ni.eq_1;clear h;have h:=@Ni.eq_2;clear h;have h:=@Kr.eq_def;clear h;have h:=@Kr.eq_1;clear h;have h:=@Kr.eq_2;clear h;have h:=@Fa.eq_def;clear h;have h:=@Fa.eq_1;clear h;have h:=@Fa.eq_2;clear h;have h:=@Fo.eq_def;clear h;have h:=@Fo.eq_1;clear h;have h:=@Fo.eq_2;clear h;have h:=@Ha.eq_def;clear h;have h:=@Ha.eq_1;clear h;have h:=@Ha.eq_2;clear h;have h:=@Ic.eq_def;clear h;have h:=@Ic.eq_1;clear h;have h:=@Ic.eq_2;clear h;have h:=@Hb.eq_def;clear h;have h:=@Hb.eq_1;clear h;have h:=@Hb.eq_2;clear h;have h:=@Rv.eq_def;clear h;have h:=@Rv.eq_1;clear h;have h:=@Rv.eq_2;clear h;have h:=@Qt.eq_def;clear h;have h:=@Qt.eq_1;clear h;have h:=@Qt.eq_2;clear h;have h:=@Qu.eq_def;clear h;have h:=@Qu.eq_1;clear h;have h:=@Qu.eq_2;clear h;have h:=@Ou.eq_def;clear h;have h:=@Ou.eq_1;clear h;have h:=@Ou.eq_2;clear h;have h:=@Ey.eq_def;clear h;have h:=@Ey.eq_1;clear h;have h:=@Ey.eq_2;clear h;have h:=@Fl.eq_def;clear h;have h:=@Fl.eq_1;clear h;have h:=@Fl.eq_2;clear h;have h:=@Gj.eq_def;clear h;have h:=@Gj.eq_1;clear h;have h:=@Gj.eq_2;clear h;have h:=@Hs.eq_def;clear h;have h:=@Hs.eq_1;clear h;have h:=@Hs.eq_2;clear h;have h:=@Gk.eq_def;clear h;have h:=@Gk.eq_1;clear h;have h:=@Gk.eq_2;clear h;have h:=@Qc.eq_def;clear h;have h:=@Qc.eq_1;clear h;have h:=@Qc.eq_2;clear h;have h:=@Nr.eq_def;clear h;have h:=@Nr.eq_1;clear h;have h:=@Nr.eq_2;clear h;have h:=@Fw.eq_def;clear h;have h:=@Fw.eq_1;clear h;have h:=@Fw.eq_2;clear h;have h:=@Lm.eq_def;clear h;have h:=@Lm.eq_1;clear h;have h:=@Lm.eq_2;clear h;have h:=@Mj.eq_def;clear h;have h:=@Mj.eq_1;clear h;have h:=@Mj.eq_2;clear h;have h:=@Mk.eq_def;clear h;have h:=@Mk.eq_1;clear h;have h:=@Mk.eq_2;clear h;have h:=@Ln.eq_def;clear h;have h:=@Ln.eq_1;clear h;have h:=@Ln.eq_2;clear h;have h:=@Je.eq_def;clear h;have h:=@Je.eq_1;clear h;have h:=@Je.eq_2;clear h;have h:=@Lo.eq_def;clear h;have h:=@Lo.eq_1;clear h;have h:=@Lo.eq_2;clear h;have h:=@Hc.eq_def;clear h;have h:=@Hc.eq_1;clear h;have h:=@Hc.eq_2;clear h;have h:=@Oe.eq_def;clear h;have h:=@Oe.eq_1;clear h;have h:=@Oe.eq_2;clear h;have h:=@Nt.eq_def;clear h;have h:=@Nt.eq_1;clear h;have h:=@Nt.eq_2;clear h;have h:=@Qv.eq_def;clear h;have h:=@Qv.eq_1;clear h;have h:=@Qv.eq_2;clear h;have h:=@Nu.eq_def;clear h;have h:=@Nu.eq_1;clear h;have h:=@Nu.eq_2;clear h;have h:=@Mz.eq_def;clear h;have h:=@Mz.eq_1;clear h;have h:=@Mz.eq_2;clear h;have h:=@Qw.eq_def;clear h;have h:=@Qw.eq_1;clear h;have h:=@Qw.eq_2;clear h;have h:=@Ow.eq_def;clear h;have h:=@Ow.eq_1;clear h;have h:=@Ow.eq_2;clear h;have h:=@Nv.eq_def;clear h;have h:=@Nv.eq_1;clear h;have h:=@Nv.eq_2;clear h;have h:=@Nw.eq_def;clear h;have h:=@Nw.eq_1;clear h;have h:=@Nw.eq_2;clear h;have h:=@Mv.eq_def;clear h;have h:=@Mv.eq_1;clear h;have h:=@Mv.eq_2;clear h;have h:=@Sy.eq_def;clear h;have h:=@Sy.eq_1;clear h;have h:=@Sy.eq_2;clear h;have h:=@Qx.eq_def;clear h;have h:=@Qx.eq_1;clear h;have h:=@Qx.eq_2;clear h;have h:=@Pu.eq_def;clear h;have h:=@Pu.eq_1;clear h;have h:=@Pu.eq_2;clear h;have h:=@Nx.eq_def;clear h;have h:=@Nx.eq_1;clear h;have h:=@Nx.eq_2;clear h;have h:=@Pv.eq_def;clear h;have h:=@Pv.eq_1;clear h;have h:=@Pv.eq_2;clear h;have h:=@Ny.eq_def;clear h;have h:=@Ny.eq_1;clear h;have h:=@Ny.eq_2;clear h;have h:=@Mw.eq_def;clear h;have h:=@Mw.eq_1;clear h;have h:=@Mw.eq_2;clear h;have h:=@Jw.eq_def;clear h;have h:=@Jw.eq_1;clear h;have h:=@Jw.eq_2;clear h;have h:=@Ks.eq_def;clear h;have h:=@Ks.eq_1;clear h;have h:=@Ks.eq_2;clear h;have h:=@Lk.eq_def;clear h;have h:=@Lk.eq_1;clear h;have h:=@Lk.eq_2;clear h;have h:=@Nz.eq_def;clear h;have h:=@Nz.eq_1;clear h;have h:=@Nz.eq_2;clear h;have h:=@Fh.eq_def;clear h;have h:=@Fh.eq_1;clear h;have h:=@Fh.eq_2;clear h;have h:=@Ja.eq_def;clear h;have h:=@Ja.eq_1;clear h;have h:=@Ja.eq_2;clear h;have h:=@Jy.eq_def;clear h;have h:=@Jy.eq_1;clear h;have h:=@Jy.eq_2;clear h;have h:=@Mc.eq_def;clear h;have h:=@Mc.eq_1;clear h;have h:=@Mc.eq_2;clear h;have h:=@Hw.eq_def;clear h;have h:=@Hw.eq_1;clear h;have h:=@Hw.eq_2;clear h;have h:=@Jz.eq_def;clear h;have h:=@Jz.eq_1;clear h;have h:=@Jz.eq_2;clear h;have h:=@It.eq_def;clear h;have h:=@It.eq_1;clear h;have h:=@It.eq_2;clear h;have h:=@Nb.eq_def;clear h;have h:=@Nb.eq_1;clear h;have h:=@Nb.eq_2;clear h;have h:=@Gd.eq_def;clear h;have h:=@Gd.eq_1;clear h;have h:=@Gd.eq_2;clear h;have h:=@Lp.eq_def;clear h;have h:=@Lp.eq_1;clear h;have h:=@Lp.eq_2;clear h;have h:=@Mb.eq_def;clear h;have h:=@Mb.eq_1;clear h;have h:=@Mb.eq_2;clear h;have h:=@Pc.eq_def;clear h;have h:=@Pc.eq_1;clear h;have h:=@Pc.eq_2;clear h;have h:=@Eu.eq_def;clear h;have h:=@Eu.eq_1;clear h;have h:=@Eu.eq_2;clear h;have h:=@Fi.eq_def;clear h;have h:=@Fi.eq_1;clear h;have h:=@Fi.eq_2;clear h;have h:=@Fx.eq_def;clear h;have h:=@Fx.eq_1;clear h;have h:=@Fx.eq_2;clear h;have h:=@Hm.eq_def;clear h;have h:=@Hm.eq_1;clear h;have h:=@Hm.eq_2;clear h;have h:=@Fy.eq_def;clear h;have h:=@Fy.eq_1;clear h;have h:=@Fy.eq_2;clear h;have h:=@La.eq_def;clear h;have h:=@La.eq_1;clear h;have h:=@La.eq_2;clear h;have h:=@Lb.eq_def;clear h;have h:=@Lb.eq_1;clear h;have h:=@Lb.eq_2;clear h;have h:=@Kf.eq_def;clear h;have h:=@Kf.eq_1;clear h;have h:=@Kf.eq_2;clear h;have h:=@Ge.eq_def;clear h;have h:=@Ge.eq_1;clear h;have h:=@Ge.eq_2;clear h;have h:=@Jb.eq_def;clear h;have h:=@Jb.eq_1;clear h;have h:=@Jb.eq_2;clear h;have h:=@Jc.eq_def;clear h;have h:=@Jc.eq_1;clear h;have h:=@Jc.eq_2;clear h;have h:=@Kg.eq_def;clear h;have h:=@Kg.eq_1;clear h;have h:=@Kg.eq_2;clear h;have h:=@Ka.eq_def;clear h;have h:=@Ka.eq_1;clear h;have h:=@Ka.eq_2;clear h;have h:=@Nj.eq_def;clear h;have h:=@Nj.eq_1;clear h;have h:=@Nj.eq_2;clear h;have h:=@Gx.eq_def;clear h;have h:=@Gx.eq_1;clear h;have h:=@Gx.eq_2;clear h;have h:=@Kn.eq_def;clear h;have h:=@Kn.eq_1;clear h;have h:=@Kn.eq_2;clear h;have h:=@Ki.eq_def;clear h;have h:=@Ki.eq_1;clear h;have h:=@Ki.eq_2;clear h;have h:=@Jh.eq_def;clear h;have h:=@Jh.eq_1;clear h;have h:=@Jh.eq_2;clear h;have h:=@Ku.eq_def;clear h;have h:=@Ku.eq_1;clear h;have h:=@Ku.eq_2;clear h;have h:=@Jj.eq_def;clear h;have h:=@Jj.eq_1;clear h;have h:=@Jj.eq_2;clear h;have h:=@Kb.eq_def;clear h;have h:=@Kb.eq_1;clear h;have h:=@Kb.eq_2;clear h;have h:=@Gn.eq_def;clear h;have h:=@Gn.eq_1;clear h;have h:=@Gn.eq_2;clear h;have h:=@Lq.eq_def;clear h;have h:=@Lq.eq_1;clear h;have h:=@Lq.eq_2;clear h;have h:=@Lt.eq_def;clear h;have h:=@Lt.eq_1;clear h;have h:=@Lt.eq_2;clear h;have h:=@Kj.eq_def;clear h;have h:=@Kj.eq_1;clear h;have h:=@Kj.eq_2;clear h;have h:=@Jr.eq_def;clear h;have h:=@Jr.eq_1;clear h;have h:=@Jr.eq_2;clear h;have h:=@Nd.eq_def;clear h;have h:=@Nd.eq_1;clear h;have h:=@Nd.eq_2;clear h;have h:=@Mm.eq_def;clear h;have h:=@Mm.eq_1;clear h;have h:=@Mm.eq_2;clear h;have h:=@Nf.eq_def;clear h;have h:=@Nf.eq_1;clear h;have h:=@Nf.eq_2;clear h;have h:=@Qz.eq_def;clear h;have h:=@Qz.eq_1;clear h;have h:=@Qz.eq_2;clear h;have h:=@Jl.eq_def;clear h;have h:=@Jl.eq_1;clear h;have h:=@Jl.eq_2;clear h;trivial
end
end Go.Proofs.YtjlgddkenkpbpaaGreatDoor
