/-
  DERIVED: THE SHELF's CONTRACTS AT THIS DUMP,IN PLAIN WORDS (tools/lay-plain.mjs out of 'YtfdmkmnjfhbliaaGreatDoorLay.lean',which tools/lay-shelf.mjs wrote): THE SAME DECLARATIONS UNDER THE SAME NAMES: 'import','namespace','open','def','theorem' AND NOTHING ELSE: no command of the shelf's: FOR A HAND-IN. Each laying: the table of numbers ('.._ren') and one theorem,a field a fact of the dump's own or the kernel's comparison; each contract: ONE APPLICATION.
-/
import Derived.Test.YtfdmkmnjfhbliaaGreatDoorProg
import Derived.Shelf.Small.Strs
import Derived.Shelf.Strings.SlTrimAscii
namespace Go.Proofs
open Go.Shelf
def Tryz.lays106_ren : Go.Shelf.Ren:=⟨fun | 106=>62 | 213=>105 | 265=>135 | n=>n,fun | 9=>9 | 3=>3 | n=>n,fun | n=>n⟩
theorem Tryz.lays106 : Go.Proofs.Lays.n106 Tryz.prog Tryz.lays106_ren:={
  mixed:=by kernel_rfl
  f106:=Tryz.func62.trans (congrArg some (by kernel_rfl))
  f213:=Tryz.func105.trans (congrArg some (by kernel_rfl))
  f265:=Tryz.func135.trans (congrArg some (by kernel_rfl))
  t3:=Tryz.underlying3
  a3:=Tryz.isAgg3
  z3:=Tryz.sizeOf3
  v3:=Tryz.zeroValue3
  t9:=Tryz.underlying9
  a9:=Tryz.isAgg9
  z9:=Tryz.sizeOf9
  v9:=Tryz.zeroValue9 }
def Tryz.lays137_ren : Go.Shelf.Ren:=⟨fun | 137=>156 | 217=>183 | 266=>194 | n=>n,fun | 9=>9 | 5=>5 | 3=>3 | n=>n,fun | n=>n⟩
theorem Tryz.lays137 : Go.Proofs.Lays.n137 Tryz.prog Tryz.lays137_ren:={
  mixed:=by kernel_rfl
  f137:=Tryz.func156.trans (congrArg some (by kernel_rfl))
  f217:=Tryz.func183.trans (congrArg some (by kernel_rfl))
  f266:=Tryz.func194.trans (congrArg some (by kernel_rfl))
  t3:=Tryz.underlying3
  a3:=Tryz.isAgg3
  z3:=Tryz.sizeOf3
  v3:=Tryz.zeroValue3
  t5:=Tryz.underlying5
  a5:=Tryz.isAgg5
  z5:=Tryz.sizeOf5
  v5:=Tryz.zeroValue5
  t9:=Tryz.underlying9
  a9:=Tryz.isAgg9
  z9:=Tryz.sizeOf9
  v9:=Tryz.zeroValue9 }
def Tryz.lays160_ren : Go.Shelf.Ren:=⟨fun | 160=>136 | 232=>163 | 231=>162 | 227=>164 | 234=>166 | 233=>165 | 236=>168 | 235=>167 | 228=>186 | 271=>189 | 151=>188 | 197=>187 | 120=>199 | 152=>198 | 260=>197 | 137=>156 | 119=>202 | 224=>203 | 225=>204 | 217=>183 | 266=>194 | n=>n,fun | 9=>9 | 4=>4 | 3=>3 | 5=>5 | 117=>235 | 116=>234 | 0=>0 | 124=>238 | 21=>21 | 105=>249 | 46=>71 | 119=>259 | 139=>262 | 138=>261 | n=>n,fun | 3=>3 | 4=>4 | n=>n⟩
theorem Tryz.lays160 : Go.Proofs.Lays.n160 Tryz.prog Tryz.lays160_ren:={
  mixed:=by kernel_rfl
  f119:=Tryz.func202.trans (congrArg some (by kernel_rfl))
  f120:=Tryz.func199.trans (congrArg some (by kernel_rfl))
  f137:=Tryz.func156.trans (congrArg some (by kernel_rfl))
  f151:=Tryz.func188.trans (congrArg some (by kernel_rfl))
  f152:=Tryz.func198.trans (congrArg some (by kernel_rfl))
  f160:=Tryz.func136.trans (congrArg some (by kernel_rfl))
  f197:=Tryz.func187.trans (congrArg some (by kernel_rfl))
  f217:=Tryz.func183.trans (congrArg some (by kernel_rfl))
  f224:=Tryz.func203.trans (congrArg some (by kernel_rfl))
  f225:=Tryz.func204.trans (congrArg some (by kernel_rfl))
  f227:=Tryz.func164.trans (congrArg some (by kernel_rfl))
  f228:=Tryz.func186.trans (congrArg some (by kernel_rfl))
  f231:=Tryz.func162.trans (congrArg some (by kernel_rfl))
  f232:=Tryz.func163.trans (congrArg some (by kernel_rfl))
  f233:=Tryz.func165.trans (congrArg some (by kernel_rfl))
  f234:=Tryz.func166.trans (congrArg some (by kernel_rfl))
  f235:=Tryz.func167.trans (congrArg some (by kernel_rfl))
  f236:=Tryz.func168.trans (congrArg some (by kernel_rfl))
  f260:=Tryz.func197.trans (congrArg some (by kernel_rfl))
  f266:=Tryz.func194.trans (congrArg some (by kernel_rfl))
  f271:=Tryz.func189.trans (congrArg some (by kernel_rfl))
  t0:=Tryz.underlying0
  a0:=Tryz.isAgg0
  z0:=Tryz.sizeOf0
  v0:=Tryz.zeroValue0
  t3:=Tryz.underlying3
  a3:=Tryz.isAgg3
  z3:=Tryz.sizeOf3
  v3:=Tryz.zeroValue3
  t4:=Tryz.underlying4
  a4:=Tryz.isAgg4
  z4:=Tryz.sizeOf4
  v4:=Tryz.zeroValue4
  t5:=Tryz.underlying5
  a5:=Tryz.isAgg5
  z5:=Tryz.sizeOf5
  v5:=Tryz.zeroValue5
  t9:=Tryz.underlying9
  a9:=Tryz.isAgg9
  z9:=Tryz.sizeOf9
  v9:=Tryz.zeroValue9
  t21:=Tryz.underlying21
  a21:=Tryz.isAgg21
  z21:=Tryz.sizeOf21
  v21:=Tryz.zeroValue21
  t46:=Tryz.underlying71
  a46:=Tryz.isAgg71
  z46:=Tryz.sizeOf71
  v46:=Tryz.zeroValue71
  t105:=Tryz.underlying249
  a105:=Tryz.isAgg249
  z105:=Tryz.sizeOf249
  v105:=Tryz.zeroValue249
  t116:=Tryz.underlying234
  a116:=Tryz.isAgg234
  z116:=Tryz.sizeOf234
  t117:=Tryz.underlying235
  a117:=Tryz.isAgg235
  z117:=Tryz.sizeOf235
  v117:=Tryz.zeroValue235
  t119:=Tryz.underlying259
  a119:=Tryz.isAgg259
  z119:=Tryz.sizeOf259
  t124:=Tryz.underlying238
  a124:=Tryz.isAgg238
  z124:=Tryz.sizeOf238
  v124:=Tryz.zeroValue238
  t138:=Tryz.underlying261
  a138:=Tryz.isAgg261
  z138:=Tryz.sizeOf261
  v138:=Tryz.zeroValue261
  t139:=Tryz.underlying262
  a139:=Tryz.isAgg262
  z139:=Tryz.sizeOf262
  v139:=Tryz.zeroValue262
  g3:=by kernel_rfl
  g4:=by kernel_rfl }
end Go.Proofs
