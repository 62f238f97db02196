/- One rule for each kind of operation: what it does to what is known. No statement here. -/
import Derived.Test.YthlielagemkjcaaGreatDoorCore
namespace Go.Proofs.YthlielagemkjcaaGreatDoor
open Go
def Rn(P:Program)(a:Act)(w:World)(op:Op)(ty:TypeId)(v:Value):Prop:=
 ∀(dst:Option Tmp) (pos:String) (after:Array Edge) (guard:Option (Nat×Bool)),(execOp a.eval {dst,op,type:=ty,pos,after,guard}).run P w= .ok (.value v) w
section pure
variable {P:Program}{a:Act}{w:World}{ty:TypeId}
theorem Rm{x:Operand}{v:Value}(h:a.eval x=v):Rn P a w (.move x) ty v:=by
 intro d p e g;simp[execOp,h]
theorem Ra{x:Operand}{v:Value}(h:a.eval x=v):Rn P a w (.assign x) ty v:=by
 intro d p e g;simp[execOp,h]
theorem WJ{c x y:Operand}{u:Value}(hc:a.eval c= .bool true)(hx:a.eval x=u):Rn P a w (.pick c x y) ty u:=by
 intro d p e g;simp[execOp,hc,hx,asBool]
theorem WK{c x y:Operand}{v:Value}(hc:a.eval c= .bool false)(hy:a.eval y=v):Rn P a w (.pick c x y) ty v:=by
 intro d p e g;simp[execOp,hc,hy,asBool]
theorem QG{t:TypeId}{x:Operand}{b:Bool}(hx:a.eval x= .bool b):Rn P a w (.unOp .not t x) ty (.bool (!b)):=by
 intro d p e g;simp[execOp,hx,Op.unary]
theorem rn_neg{t:TypeId}{x:Operand}{m:Int}(hx:a.eval x= .int .i64 m):Rn P a w (.unOp .neg t x) ty (.int .i64 (W (0-m))):=by
 intro d p e g;simp[execOp,hx,Op.unary,Op.intArith,W]
section ints
variable {t u:TypeId}{x y:Operand}{m n:Int}(hx:a.eval x= .int .i64 m)(hy:a.eval y= .int .i64 n)
include hx hy
theorem QH:Rn P a w (.binOp .add t x y u) ty (.int .i64 (W (m+n))):=by
 intro d p e g;simp[execOp,hx,hy,binOp,eqGuard,Op.intArith,W]
theorem JO:Rn P a w (.binOp .sub t x y u) ty (.int .i64 (W (m-n))):=by
 intro d p e g;simp[execOp,hx,hy,binOp,eqGuard,Op.intArith,W]
theorem rn_mul:Rn P a w (.binOp .mul t x y u) ty (.int .i64 (W (m*n))):=by
 intro d p e g;simp[execOp,hx,hy,binOp,eqGuard,Op.intArith,W]
theorem rn_quo(h0:n≠0):Rn P a w (.binOp .quo t x y u) ty (.int .i64 (W (m.tdiv n))):=by
 intro d p e g;simp[execOp,hx,hy,binOp,eqGuard,Op.intDiv,W,h0]
theorem rn_rem(h0:n≠0):Rn P a w (.binOp .rem t x y u) ty (.int .i64 (m.tmod n)):=by
 intro d p e g;simp[execOp,hx,hy,binOp,eqGuard,Op.intDiv,h0]
end ints
section intsk
variable {k:IntKind}{t u:TypeId}{x y:Operand}{m n:Int}(hx:a.eval x= .int k m)(hy:a.eval y= .int k n)
include hx hy
theorem Akg:Rn P a w (.binOp .eql t x y u) ty (.bool (decide (m=n))):=by
 intro d p e g;simp[execOp,hx,hy,binOp,eqGuard,Op.intCmp];rfl
theorem Akh:Rn P a w (.binOp .neq t x y u) ty (.bool (!decide (m=n))):=by
 intro d p e g;simp[execOp,hx,hy,binOp,eqGuard,Op.intCmp];rfl
theorem BE:Rn P a w (.binOp .lss t x y u) ty (.bool (decide (m<n))):=by
 intro d p e g;simp[execOp,hx,hy,binOp,eqGuard,Op.intCmp]
theorem rn_leq:Rn P a w (.binOp .leq t x y u) ty (.bool (decide (m<=n))):=by
 intro d p e g;simp[execOp,hx,hy,binOp,eqGuard,Op.intCmp]
theorem Aki:Rn P a w (.binOp .gtr t x y u) ty (.bool (decide (n<m))):=by
 intro d p e g;simp[execOp,hx,hy,binOp,eqGuard,Op.intCmp]
theorem Aer:Rn P a w (.binOp .geq t x y u) ty (.bool (decide (n<=m))):=by
 intro d p e g;simp[execOp,hx,hy,binOp,eqGuard,Op.intCmp]
end intsk
section shifts
variable {k k':IntKind}{t u:TypeId}{x y:Operand}{m n:Int}(hx:a.eval x= .int k m)(hy:a.eval y= .int k' n)(h0:0<=n)
include hx hy h0
theorem rn_shr:Rn P a w (.binOp .shr t x y u) ty (.int k (Py k m n)):=by
 have h1:¬n<0:=by omega
 intro d p e g;simp[execOp,hx,hy,binOp,eqGuard,Op.shift,Py,h1]
end shifts
theorem JL(s t:ByteArray):(s.toList==t.toList)=decide (s=t):=by
 rw[ByteArray.toList_eq,ByteArray.toList_eq,Bool.eq_iff_iff];simp only[beq_iff_eq,aK];constructor
 ·intro h
  cases s;cases t
  simpa using h
 ·intro h;rw[h]
section strs
variable {t u:TypeId}{x y:Operand}{m n:ByteArray}(hx:a.eval x= .string m)(hy:a.eval y= .string n)
include hx hy
theorem Aes:Rn P a w (.binOp .eql t x y u) ty (.bool (decide (m=n))):=by
 intro d p e g;simp only[execOp,hx,hy,binOp,eqGuard,Op.stringOp,JL];simp
theorem YM:Rn P a w (.binOp .neq t x y u) ty (.bool (!decide (m=n))):=by
 intro d p e g;simp only[execOp,hx,hy,binOp,eqGuard,Op.stringOp,JL];simp
theorem rn_slss:Rn P a w (.binOp .lss t x y u) ty (.bool (XL m n)):=by
 intro d p e g;simp[execOp,hx,hy,binOp,eqGuard,Op.stringOp,XL]
theorem rn_sleq:Rn P a w (.binOp .leq t x y u) ty (.bool (XL m n||decide (m=n))):=by
 intro d p e g;simp only[execOp,hx,hy,binOp,eqGuard,Op.stringOp,JL,XL];simp
theorem rn_sadd(h:m.size+n.size<=9223372036854775807):Rn P a w (.binOp .add t x y u) ty (.string (m++n)):=by
 intro d p e g;have h':¬(((m.size+n.size:Nat):Int)>IntKind.i64.max):=by
  simp[IntKind.max,IntKind.signed,IntKind.bits];omega
 simp only[execOp,hx,hy,binOp,eqGuard,Op.stringOp,aP h'];simp
end strs
theorem ZJ{t:TypeId}{m n:Bool}(ht:P.underlying t=some .bool):(Op.equal t (.bool m) (.bool n)).run P w= .ok (decide (m=n)) w:=by
 show (Op.equalIn (9999+1) t (.bool m) (.bool n)).run P w=_;unfold Op.equalIn;simp only[Sem.run_bind,run_underlying ht,Result.andThen_ok,Sem.run_pure]
 cases m<;>cases n<;>rfl
theorem rn_bneq{t u:TypeId}{x y:Operand}{m n:Bool}(ht:P.underlying t=some .bool)(hx:a.eval x= .bool m)(hy:a.eval y= .bool n):Rn P a w (.binOp .neq t x y u) ty (.bool (!decide (m=n))):=by
 intro d p e g;simp[execOp,hx,hy,binOp,eqGuard,ZJ ht]
theorem Qj{x:Operand}{vs:Array Value}{i:Nat}{v:Value}(hx:a.eval x= .tuple vs)(h:vs[i]? =some v):Rn P a w (.extract x i) ty v:=by
 intro d p e g;simp[execOp,hx,Instr.extract,h]
theorem ZK{c x y:Operand}{b u:Bool}(h:b=true)(hc:a.eval c= .bool b)(hx:a.eval x= .bool u):Rn P a w (.pick c x y) ty (.bool (b && u)):=by
 subst h;exact WJ hc hx
theorem ZL{c x y:Operand}{b:Bool}(u:Bool)(h:b=false)(hc:a.eval c= .bool b)(hy:a.eval y= .bool false):Rn P a w (.pick c x y) ty (.bool (b && u)):=by
 subst h;exact WK hc hy
theorem QI{f:Fn}{xs ys:Array Operand}{us vs:Array Value}(hx:xs.map a.eval=us)(hy:ys.map a.eval=vs):Rn P a w (.makeFunc f xs ys) ty (.func f us vs):=by
 intro d p e g;simp[execOp,Instr.makeFunc,hx,hy]
theorem XM{x:Operand}{ad:Addr}(hx:a.eval x= .pointer (some ad)):Rn P a w (.nilCheck x) ty (.pointer (some ad)):=by
 intro d p e g;simp[execOp,hx]
theorem rn_conv{s t:TypeId}{x:Operand}{k k':IntKind}{n:Int}{ds:TypeDesc}(hs:P.underlying s=some ds)(ht:P.underlying t=some (.int k))(hx:a.eval x= .int k' n):Rn P a w (.convert s t x) ty (.int k (k.wrap n)):=by
 intro d p e g;simp[execOp,hx,convert,run_underlying hs,run_underlying ht,Conv.intToInt]
theorem Akj{s t:TypeId}{x:Operand}{k:IntKind}{n:Int}{ds:TypeDesc}(hs:P.underlying s=some ds)(ht:P.underlying t=some .string)(hx:a.eval x= .int k n):Rn P a w (.convert s t x) ty (.string (Utf8.encode n)):=by
 intro d p e g;simp[execOp,hx,convert,run_underlying hs,run_underlying ht,Conv.intToString]
theorem ne0_of{b:Int}(h:(!decide (b=0))=true):b≠0:=by simpa using h
theorem Aet{s:TypeId}{x:Operand}{i:Nat}{fs:Array Field}{f:Field}{b off o:Nat}{sz:Nat}(hs:P.underlying s=some (.struct fs))(hf:fs[i]? =some f)
 (hz:∀w,(sizeOf f.type).run P w= .ok sz w) (hsz:(sz==0)=false) (ho:f.offset=o) (hx:a.eval x= .pointer (some ⟨b,off,none⟩)):
 Rn P a w (.fieldAddr s x i) ty (.pointer (some ⟨b,off+o,none⟩)):=by
 intro d p e g;have hsz':¬sz=0:=by simpa using hsz
 have hadd:(⟨b,off,none⟩:Addr).add o=⟨b,off+o,none⟩:=by unfold Addr.add;split<;>simp_all
 simp[execOp,hx,Instr.fieldAt,run_underlying hs,hf,Instr.sureAddr,fieldPlace,hz,hsz',ho,hadd]
theorem Aeu{t:TypeId}{x:Operand}{ao:Option Addr}{n c:Nat}{el:TypeId}(ht:P.underlying t=some (.slice el))(hx:a.eval x= .slice ao n c):
 Rn P a w (.call {callee:=.builtin .len,args:=#[x],argTypes:=#[t]}) ty (.int .i64 n):=by
 intro d p e g;simp[execOp,resolve,invoke,builtin,hx,Builtin.len_,run_underlying ht,goInt]
theorem Akk{t:TypeId}{x:Operand}{s:ByteArray}(ht:P.underlying t=some .string)(hx:a.eval x= .string s):
 Rn P a w (.call {callee:=.builtin .len,args:=#[x],argTypes:=#[t]}) ty (.int .i64 s.size):=by
 intro d p e g;simp[execOp,resolve,invoke,builtin,hx,Builtin.len_,run_underlying ht,goInt]
theorem rn_max2{k k':IntKind}{ts:Array TypeId}{x y:Operand}{m n:Int}(hx:a.eval x= .int k m)(hy:a.eval y= .int k' n):
 Rn P a w (.call {callee:=.builtin .max,args:=#[x,y],argTypes:=ts}) ty (.int k (if n>m then n else m)):=by
 intro d p e g;simp[execOp,resolve,invoke,builtin,hx,hy,Builtin.max_,Builtin.max2]
theorem Aev{k k':IntKind}{ts:Array TypeId}{x y:Operand}{m n:Int}(hx:a.eval x= .int k m)(hy:a.eval y= .int k' n):
 Rn P a w (.call {callee:=.builtin .min,args:=#[x,y],argTypes:=ts}) ty (.int k (if n<m then n else m)):=by
 intro d p e g;simp[execOp,resolve,invoke,builtin,hx,hy,Builtin.min_,Builtin.min2]
end pure
end Go.Proofs.YthlielagemkjcaaGreatDoor
