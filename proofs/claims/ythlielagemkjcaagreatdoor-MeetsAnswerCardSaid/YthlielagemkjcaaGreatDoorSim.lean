/- Steps that show by themselves: a tactic that stands once,in a theorem's default,goes through them. No statement here. -/
import Derived.Test.YthlielagemkjcaaGreatDoorTight
namespace Go.Proofs.YthlielagemkjcaaGreatDoor
open Go
class AgF(P:Program)(T:TypeId):Prop where
 out:∀w,(isAgg T).run P w= .ok false w
class FldI(P:Program)(s i:Nat)(o:outParam Nat):Prop where
 out:Oi P s i o
class SlI(P:Program)(t:Nat)(T k by_:outParam Nat):Prop where
 out:SlT P t T k by_
structure Cnt(m:Nat):Prop where
theorem Cnt.dec{m:Nat}(_:Cnt (m+1)):Cnt m:=⟨⟩
theorem Cnt.end_(_:Cnt 0):True:=trivial
theorem at0{l:List LEnt}{e:LEnt}(h:l[0]? =some e):l[0]? =some e:=h
theorem at1{l:List LEnt}{e:LEnt}(h:l[1]? =some e):l[1]? =some e:=h
theorem at2{l:List LEnt}{e:LEnt}(h:l[2]? =some e):l[2]? =some e:=h
theorem at3{l:List LEnt}{e:LEnt}(h:l[3]? =some e):l[3]? =some e:=h
theorem at4{l:List LEnt}{e:LEnt}(h:l[4]? =some e):l[4]? =some e:=h
theorem at5{l:List LEnt}{e:LEnt}(h:l[5]? =some e):l[5]? =some e:=h
theorem at6{l:List LEnt}{e:LEnt}(h:l[6]? =some e):l[6]? =some e:=h
theorem at7{l:List LEnt}{e:LEnt}(h:l[7]? =some e):l[7]? =some e:=h
section
variable {w0:World}{X:List Nat}{φ:View}{L:List LEnt}{K K':List (Nat×Value)}{n:Nat}{a:Act}{w:World}{G G':Act->World->Prop}
section
variable {P:Program}{ops:Array Oper}{Q:Exit->Act->World->Prop}{rest:List Oper}{d:Nat}{ty:TypeId}{pos:String}{after:Array Edge}
theorem Tmov{t:Nat}{v:Value}(S:Sx w0 X φ L K n a w)(h:look K t=some v)(hd:Nat.blt d n=true)(k:∀a',Sx w0 X φ L ((d,v)::K) n a' w->wpList P ops Q rest a' w):
 wpList P ops Q ({dst:=some d,op:=.move (.tmp t),type:=ty,pos,after,guard:=none}::rest) a w:=lv S (Rm (S.tm h)) hd k
theorem Tmoc{v:Value}(S:Sx w0 X φ L K n a w)(hd:Nat.blt d n=true)(k:∀a',Sx w0 X φ L ((d,v)::K) n a' w->wpList P ops Q rest a' w):
 wpList P ops Q ({dst:=some d,op:=.move (.const v),type:=ty,pos,after,guard:=none}::rest) a w:=lv S (Rm rfl) hd k
theorem Tasg{t:Nat}{v:Value}(S:Sx w0 X φ L K n a w)(h:look K t=some v)(hd:Nat.blt d n=true)(k:∀a',Sx w0 X φ L ((d,v)::K) n a' w->wpList P ops Q rest a' w):
 wpList P ops Q ({dst:=some d,op:=.assign (.tmp t),type:=ty,pos,after,guard:=none}::rest) a w:=lv S (Ra (S.tm h)) hd k
theorem Tasc{v:Value}(S:Sx w0 X φ L K n a w)(hd:Nat.blt d n=true)(k:∀a',Sx w0 X φ L ((d,v)::K) n a' w->wpList P ops Q rest a' w):
 wpList P ops Q ({dst:=some d,op:=.assign (.const v),type:=ty,pos,after,guard:=none}::rest) a w:=lv S (Ra rfl) hd k
theorem Tasf{f:FuncId}(S:Sx w0 X φ L K n a w)(hd:Nat.blt d n=true)(k:∀a',Sx w0 X φ L ((d,.func (.func f) #[] #[])::K) n a' w->wpList P ops Q rest a' w):
 wpList P ops Q ({dst:=some d,op:=.assign (.func f),type:=ty,pos,after,guard:=none}::rest) a w:=lv S (Ra rfl) hd k
theorem Tfld{t s i o b off:Nat}[F:FldI P s i o](S:Sx w0 X φ L K n a w)(h:look K t=some (.pointer (some ⟨b,off,none⟩)))(hd:Nat.blt d n=true)(k:∀a',Sx w0 X φ L ((d,.pointer (some ⟨b,off+o,none⟩))::K) n a' w->wpList P ops Q rest a' w):
 wpList P ops Q ({dst:=some d,op:=.fieldAddr s (.tmp t) i,type:=ty,pos,after,guard:=none}::rest) a w:=lv S (ME F.out (S.tm h)) hd k
theorem Tldc{t T T' b off i:Nat}{cells:List Value}{v:Value}[A:AgF P T](S:Sx w0 X φ L K n a w)(h:look K t=some (.pointer (some ⟨b,off,none⟩)))(hi:L[i]? =some (.blk b cells T'))(hv:cells[off]? =some v)(hd:Nat.blt d n=true)(k:∀a',Sx w0 X φ L ((d,v)::K) n a' w->wpList P ops Q rest a' w):
 wpList P ops Q ({dst:=some d,op:=.load T (.tmp t),type:=ty,pos,after,guard:=none}::rest) a w:=lv S (OI A.out (S.tm h) (S.cell hi hv)) hd k
theorem Tnot{t:Nat}{T:TypeId}{b:Bool}(S:Sx w0 X φ L K n a w)(h:look K t=some (.bool b))(hd:Nat.blt d n=true)(k:∀a',Sx w0 X φ L ((d,.bool (!b))::K) n a' w->wpList P ops Q rest a' w):
 wpList P ops Q ({dst:=some d,op:=.unOp .not T (.tmp t),type:=ty,pos,after,guard:=none}::rest) a w:=lv S (QG (S.tm h)) hd k
theorem Text{t i:Nat}{vs:Array Value}{v:Value}(S:Sx w0 X φ L K n a w)(h:look K t=some (.tuple vs))(hv:vs[i]? =some v)(hd:Nat.blt d n=true)(k:∀a',Sx w0 X φ L ((d,v)::K) n a' w->wpList P ops Q rest a' w):
 wpList P ops Q ({dst:=some d,op:=.extract (.tmp t) i,type:=ty,pos,after,guard:=none}::rest) a w:=lv S (Qj (S.tm h) hv) hd k
theorem Tnil{t:Nat}{ad:Addr}(S:Sx w0 X φ L K n a w)(h:look K t=some (.pointer (some ad)))(hd:Nat.blt d n=true)(k:∀a',Sx w0 X φ L ((d,.pointer (some ad))::K) n a' w->wpList P ops Q rest a' w):
 wpList P ops Q ({dst:=some d,op:=.nilCheck (.tmp t),type:=ty,pos,after,guard:=none}::rest) a w:=lv S (XM (S.tm h)) hd k
theorem Tlen{t T E k' by_ q:Nat}{v:Value}[A:SlI P T E k' by_](S:Sx w0 X φ L K n a w)(h:look K t=some v)(hv:Jc v q)(hd:Nat.blt d n=true)(k:∀a',Sx w0 X φ L ((d,.int .i64 q)::K) n a' w->wpList P ops Q rest a' w):
 wpList P ops Q ({dst:=some d,op:=.call {callee:=.builtin .len,args:=#[.tmp t],argTypes:=#[T]},type:=ty,pos,after,guard:=none}::rest) a w:=lv S (Uo A.out (S.tm h) hv) hd k
theorem Tleo{t T E E' k' q' by_ q i:Nat}{v:Value}{cs:List Value}[A:SlI P T E k' by_](S:Sx w0 X φ L K n a w)(h:look K t=some v)(hi:L[i]? =some (.own v E' q' q cs))(hd:Nat.blt d n=true)(k:∀a',Sx w0 X φ L ((d,.int .i64 q)::K) n a' w->wpList P ops Q rest a' w):
 wpList P ops Q ({dst:=some d,op:=.call {callee:=.builtin .len,args:=#[.tmp t],argTypes:=#[T]},type:=ty,pos,after,guard:=none}::rest) a w:=lv S (Uo A.out (S.tm h) (Li (S.own_at hi))) hd k
theorem Tadd{T U:TypeId}{x y:Operand}{p q:Int}(S:Sx w0 X φ L K n a w)(hx:a.eval x= .int .i64 p)(hy:a.eval y= .int .i64 q)(hd:Nat.blt d n=true)(k:∀a',Sx w0 X φ L ((d,.int .i64 (W (p+q)))::K) n a' w->wpList P ops Q rest a' w):
 wpList P ops Q ({dst:=some d,op:=.binOp .add T x y U,type:=ty,pos,after,guard:=none}::rest) a w:=lv S (QH hx hy) hd k
theorem Tsub{T U:TypeId}{x y:Operand}{p q:Int}(S:Sx w0 X φ L K n a w)(hx:a.eval x= .int .i64 p)(hy:a.eval y= .int .i64 q)(hd:Nat.blt d n=true)(k:∀a',Sx w0 X φ L ((d,.int .i64 (W (p-q)))::K) n a' w->wpList P ops Q rest a' w):
 wpList P ops Q ({dst:=some d,op:=.binOp .sub T x y U,type:=ty,pos,after,guard:=none}::rest) a w:=lv S (JO hx hy) hd k
theorem Tmul{T U:TypeId}{x y:Operand}{p q:Int}(S:Sx w0 X φ L K n a w)(hx:a.eval x= .int .i64 p)(hy:a.eval y= .int .i64 q)(hd:Nat.blt d n=true)(k:∀a',Sx w0 X φ L ((d,.int .i64 (W (p*q)))::K) n a' w->wpList P ops Q rest a' w):
 wpList P ops Q ({dst:=some d,op:=.binOp .mul T x y U,type:=ty,pos,after,guard:=none}::rest) a w:=lv S (rn_mul hx hy) hd k
theorem Tlss{T U:TypeId}{x y:Operand}{p q:Int}{kk:IntKind}(S:Sx w0 X φ L K n a w)(hx:a.eval x= .int kk p)(hy:a.eval y= .int kk q)(hd:Nat.blt d n=true)(k:∀a',Sx w0 X φ L ((d,.bool (decide (p<q)))::K) n a' w->wpList P ops Q rest a' w):
 wpList P ops Q ({dst:=some d,op:=.binOp .lss T x y U,type:=ty,pos,after,guard:=none}::rest) a w:=lv S (BE hx hy) hd k
theorem Tleq{T U:TypeId}{x y:Operand}{p q:Int}{kk:IntKind}(S:Sx w0 X φ L K n a w)(hx:a.eval x= .int kk p)(hy:a.eval y= .int kk q)(hd:Nat.blt d n=true)(k:∀a',Sx w0 X φ L ((d,.bool (decide (p<=q)))::K) n a' w->wpList P ops Q rest a' w):
 wpList P ops Q ({dst:=some d,op:=.binOp .leq T x y U,type:=ty,pos,after,guard:=none}::rest) a w:=lv S (rn_leq hx hy) hd k
theorem Tgtr{T U:TypeId}{x y:Operand}{p q:Int}{kk:IntKind}(S:Sx w0 X φ L K n a w)(hx:a.eval x= .int kk p)(hy:a.eval y= .int kk q)(hd:Nat.blt d n=true)(k:∀a',Sx w0 X φ L ((d,.bool (decide (q<p)))::K) n a' w->wpList P ops Q rest a' w):
 wpList P ops Q ({dst:=some d,op:=.binOp .gtr T x y U,type:=ty,pos,after,guard:=none}::rest) a w:=lv S (Aki hx hy) hd k
theorem Tgeq{T U:TypeId}{x y:Operand}{p q:Int}{kk:IntKind}(S:Sx w0 X φ L K n a w)(hx:a.eval x= .int kk p)(hy:a.eval y= .int kk q)(hd:Nat.blt d n=true)(k:∀a',Sx w0 X φ L ((d,.bool (decide (q<=p)))::K) n a' w->wpList P ops Q rest a' w):
 wpList P ops Q ({dst:=some d,op:=.binOp .geq T x y U,type:=ty,pos,after,guard:=none}::rest) a w:=lv S (Aer hx hy) hd k
theorem Teql{T U:TypeId}{x y:Operand}{p q:Int}{kk:IntKind}(S:Sx w0 X φ L K n a w)(hx:a.eval x= .int kk p)(hy:a.eval y= .int kk q)(hd:Nat.blt d n=true)(k:∀a',Sx w0 X φ L ((d,.bool (decide (p=q)))::K) n a' w->wpList P ops Q rest a' w):
 wpList P ops Q ({dst:=some d,op:=.binOp .eql T x y U,type:=ty,pos,after,guard:=none}::rest) a w:=lv S (Akg hx hy) hd k
theorem Tneq{T U:TypeId}{x y:Operand}{p q:Int}{kk:IntKind}(S:Sx w0 X φ L K n a w)(hx:a.eval x= .int kk p)(hy:a.eval y= .int kk q)(hd:Nat.blt d n=true)(k:∀a',Sx w0 X φ L ((d,.bool (!decide (p=q)))::K) n a' w->wpList P ops Q rest a' w):
 wpList P ops Q ({dst:=some d,op:=.binOp .neq T x y U,type:=ty,pos,after,guard:=none}::rest) a w:=lv S (Akh hx hy) hd k
theorem Tseql{T U:TypeId}{x y:Operand}{p q:ByteArray}(S:Sx w0 X φ L K n a w)(hx:a.eval x= .string p)(hy:a.eval y= .string q)(hd:Nat.blt d n=true)(k:∀a',Sx w0 X φ L ((d,.bool (decide (p=q)))::K) n a' w->wpList P ops Q rest a' w):
 wpList P ops Q ({dst:=some d,op:=.binOp .eql T x y U,type:=ty,pos,after,guard:=none}::rest) a w:=lv S (Aes hx hy) hd k
theorem Tsneq{T U:TypeId}{x y:Operand}{p q:ByteArray}(S:Sx w0 X φ L K n a w)(hx:a.eval x= .string p)(hy:a.eval y= .string q)(hd:Nat.blt d n=true)(k:∀a',Sx w0 X φ L ((d,.bool (!decide (p=q)))::K) n a' w->wpList P ops Q rest a' w):
 wpList P ops Q ({dst:=some d,op:=.binOp .neq T x y U,type:=ty,pos,after,guard:=none}::rest) a w:=lv S (YM hx hy) hd k
end
theorem Sg(m:Nat)(S:Sx w0 X φ L K n a w)(k:∀a',Sx w0 X φ L K' n a' w->G' a' w)(h:Cnt m->(∀a',Sx w0 X φ L K' n a' w->G' a' w)->∀a,Sx w0 X φ L K n a w->G a w:=by
 intro hc k a S
 repeat (replace hc:=hc.dec;first
  |(with_reducible refine Tn ?_)
  |(with_reducible refine Fs ?_)
  |(with_reducible refine Ld ?_)
  |(with_reducible refine Fg ?_)
  |((with_reducible apply Tmov S);exact rfl;exact rfl;clear S;intro a S)
  |((with_reducible apply Tasg S);exact rfl;exact rfl;clear S;intro a S)
  |((with_reducible apply Tasc S);exact rfl;clear S;intro a S)
  |((with_reducible apply Tasf S);exact rfl;clear S;intro a S)
  |((with_reducible apply Tfld S);exact rfl;exact rfl;clear S;intro a S)
  |((with_reducible apply Tldc S);exact rfl;(first|exact at0 rfl|exact at1 rfl|exact at2 rfl|exact at3 rfl|exact at4 rfl|exact at5 rfl|exact at6 rfl|exact at7 rfl);exact rfl;exact rfl;clear S;intro a S)
  |((with_reducible apply TM S);exact rfl;exact rfl;exact rfl;assumption)
  |((with_reducible apply Tlss S);(first|exact S.tm rfl|exact rfl);(first|exact S.tm rfl|exact rfl);exact rfl;clear S;intro a S)
  |((with_reducible apply Tadd S);(first|exact S.tm rfl|exact rfl);(first|exact S.tm rfl|exact rfl);exact rfl;clear S;intro a S)
  |((with_reducible apply Teql S);(first|exact S.tm rfl|exact rfl);(first|exact S.tm rfl|exact rfl);exact rfl;clear S;intro a S)
  |((with_reducible apply Tneq S);(first|exact S.tm rfl|exact rfl);(first|exact S.tm rfl|exact rfl);exact rfl;clear S;intro a S)
  |((with_reducible apply Tgtr S);(first|exact S.tm rfl|exact rfl);(first|exact S.tm rfl|exact rfl);exact rfl;clear S;intro a S)
  |((with_reducible apply Tsub S);(first|exact S.tm rfl|exact rfl);(first|exact S.tm rfl|exact rfl);exact rfl;clear S;intro a S)
  |((with_reducible apply Tmul S);(first|exact S.tm rfl|exact rfl);(first|exact S.tm rfl|exact rfl);exact rfl;clear S;intro a S)
  |((with_reducible apply Tleq S);(first|exact S.tm rfl|exact rfl);(first|exact S.tm rfl|exact rfl);exact rfl;clear S;intro a S)
  |((with_reducible apply Tgeq S);(first|exact S.tm rfl|exact rfl);(first|exact S.tm rfl|exact rfl);exact rfl;clear S;intro a S)
  |((with_reducible apply Tseql S);(first|exact S.tm rfl|exact rfl);(first|exact S.tm rfl|exact rfl);exact rfl;clear S;intro a S)
  |((with_reducible apply Tsneq S);(first|exact S.tm rfl|exact rfl);(first|exact S.tm rfl|exact rfl);exact rfl;clear S;intro a S)
  |(with_reducible refine Mf ?_)
  |(with_reducible refine Tl ?_)
  |(with_reducible refine Vo ?_)
  |(with_reducible refine Nq ?_)
  |(with_reducible refine Ia ?_)
  |(with_reducible refine AQ ?_)
  |(with_reducible refine LH ?_)
  |(with_reducible refine Zc ?_)
  |(with_reducible refine Xm ?_)
  |((with_reducible apply Tnot S);exact rfl;exact rfl;clear S;intro a S)
  |((with_reducible apply Text S);exact rfl;exact rfl;exact rfl;clear S;intro a S)
  |((with_reducible apply Tmoc S);exact rfl;clear S;intro a S)
  |((with_reducible apply Tlen S);exact rfl;exact Ku (by assumption);exact rfl;clear S;intro a S)
  |((with_reducible apply Tleo S);exact rfl;(first|exact at0 rfl|exact at1 rfl|exact at2 rfl|exact at3 rfl);exact rfl;clear S;intro a S)
  |((with_reducible apply Tnil S);exact rfl;exact rfl;clear S;intro a S)
  |(dsimp only[List.take,List.drop];first|((with_reducible apply TM S);exact rfl;exact rfl;exact rfl;assumption)|((with_reducible apply Tmov S);exact rfl;exact rfl;clear S;intro a S)|((with_reducible apply Tfld S);exact rfl;exact rfl;clear S;intro a S)|((with_reducible apply Tasg S);exact rfl;exact rfl;clear S;intro a S)|((with_reducible apply Tasc S);exact rfl;clear S;intro a S)|((with_reducible apply Tldc S);exact rfl;(first|exact at0 rfl|exact at1 rfl|exact at2 rfl|exact at3 rfl|exact at4 rfl|exact at5 rfl|exact at6 rfl|exact at7 rfl);exact rfl;exact rfl;clear S;intro a S)))
 have:=hc.end_;exact k a S):G a w:=h ⟨⟩ k a S
end
end Go.Proofs.YthlielagemkjcaaGreatDoor
