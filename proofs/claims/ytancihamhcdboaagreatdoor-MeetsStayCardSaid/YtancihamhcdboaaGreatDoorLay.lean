/-
  DERIVED: THE SHELF's CONTRACTS AT THIS DUMP,IN PLAIN WORDS (tools/lay-plain.mjs out of 'YtancihamhcdboaaGreatDoorLay.lean',which tools/lay-shelf.mjs wrote): THE SAME DECLARATIONS UNDER THE SAME NAMES: 'import','namespace','open','def','theorem' AND NOTHING ELSE: no command of the shelf's: FOR A HAND-IN. Each laying: the table of numbers ('.._ren') and one theorem,a field a fact of the dump's own or the kernel's comparison; each contract: ONE APPLICATION.
-/
import Derived.Test.YtancihamhcdboaaGreatDoorProg
import Derived.Shelf.Small.Strs
import Derived.Shelf.Strings.SlTrimAscii
namespace Go.Proofs
open Go.Shelf
def Tryz.lays106_ren : Go.Shelf.Ren:=⟨fun | 106=>53 | 213=>99 | 265=>131 | n=>n,fun | 9=>9 | 3=>3 | n=>n,fun | n=>n⟩
theorem Tryz.lays106 : Go.Proofs.Lays.n106 Tryz.prog Tryz.lays106_ren:={
  mixed:=by kernel_rfl
  f106:=Tryz.func53.trans (congrArg some (by kernel_rfl))
  f213:=Tryz.func99.trans (congrArg some (by kernel_rfl))
  f265:=Tryz.func131.trans (congrArg some (by kernel_rfl))
  t3:=Tryz.underlying3
  a3:=Tryz.isAgg3
  z3:=Tryz.sizeOf3
  v3:=Tryz.zeroValue3
  t9:=Tryz.underlying9
  a9:=Tryz.isAgg9
  z9:=Tryz.sizeOf9
  v9:=Tryz.zeroValue9 }
def Tryz.lays137_ren : Go.Shelf.Ren:=⟨fun | 137=>152 | 217=>174 | 266=>185 | n=>n,fun | 9=>9 | 5=>5 | 3=>3 | n=>n,fun | n=>n⟩
theorem Tryz.lays137 : Go.Proofs.Lays.n137 Tryz.prog Tryz.lays137_ren:={
  mixed:=by kernel_rfl
  f137:=Tryz.func152.trans (congrArg some (by kernel_rfl))
  f217:=Tryz.func174.trans (congrArg some (by kernel_rfl))
  f266:=Tryz.func185.trans (congrArg some (by kernel_rfl))
  t3:=Tryz.underlying3
  a3:=Tryz.isAgg3
  z3:=Tryz.sizeOf3
  v3:=Tryz.zeroValue3
  t5:=Tryz.underlying5
  a5:=Tryz.isAgg5
  z5:=Tryz.sizeOf5
  v5:=Tryz.zeroValue5
  t9:=Tryz.underlying9
  a9:=Tryz.isAgg9
  z9:=Tryz.sizeOf9
  v9:=Tryz.zeroValue9 }
def Tryz.lays160_ren : Go.Shelf.Ren:=⟨fun | 160=>125 | 232=>154 | 231=>153 | 227=>155 | 234=>157 | 233=>156 | 236=>159 | 235=>158 | 228=>175 | 271=>178 | 151=>177 | 197=>176 | 120=>188 | 152=>187 | 260=>186 | 137=>152 | 119=>192 | 224=>193 | 225=>194 | 217=>174 | 266=>185 | n=>n,fun | 9=>9 | 4=>4 | 3=>3 | 5=>5 | 117=>236 | 116=>235 | 0=>0 | 124=>239 | 21=>21 | 105=>252 | 46=>117 | 119=>266 | 139=>269 | 138=>268 | n=>n,fun | 3=>3 | 4=>4 | n=>n⟩
theorem Tryz.lays160 : Go.Proofs.Lays.n160 Tryz.prog Tryz.lays160_ren:={
  mixed:=by kernel_rfl
  f119:=Tryz.func192.trans (congrArg some (by kernel_rfl))
  f120:=Tryz.func188.trans (congrArg some (by kernel_rfl))
  f137:=Tryz.func152.trans (congrArg some (by kernel_rfl))
  f151:=Tryz.func177.trans (congrArg some (by kernel_rfl))
  f152:=Tryz.func187.trans (congrArg some (by kernel_rfl))
  f160:=Tryz.func125.trans (congrArg some (by kernel_rfl))
  f197:=Tryz.func176.trans (congrArg some (by kernel_rfl))
  f217:=Tryz.func174.trans (congrArg some (by kernel_rfl))
  f224:=Tryz.func193.trans (congrArg some (by kernel_rfl))
  f225:=Tryz.func194.trans (congrArg some (by kernel_rfl))
  f227:=Tryz.func155.trans (congrArg some (by kernel_rfl))
  f228:=Tryz.func175.trans (congrArg some (by kernel_rfl))
  f231:=Tryz.func153.trans (congrArg some (by kernel_rfl))
  f232:=Tryz.func154.trans (congrArg some (by kernel_rfl))
  f233:=Tryz.func156.trans (congrArg some (by kernel_rfl))
  f234:=Tryz.func157.trans (congrArg some (by kernel_rfl))
  f235:=Tryz.func158.trans (congrArg some (by kernel_rfl))
  f236:=Tryz.func159.trans (congrArg some (by kernel_rfl))
  f260:=Tryz.func186.trans (congrArg some (by kernel_rfl))
  f266:=Tryz.func185.trans (congrArg some (by kernel_rfl))
  f271:=Tryz.func178.trans (congrArg some (by kernel_rfl))
  t0:=Tryz.underlying0
  a0:=Tryz.isAgg0
  z0:=Tryz.sizeOf0
  v0:=Tryz.zeroValue0
  t3:=Tryz.underlying3
  a3:=Tryz.isAgg3
  z3:=Tryz.sizeOf3
  v3:=Tryz.zeroValue3
  t4:=Tryz.underlying4
  a4:=Tryz.isAgg4
  z4:=Tryz.sizeOf4
  v4:=Tryz.zeroValue4
  t5:=Tryz.underlying5
  a5:=Tryz.isAgg5
  z5:=Tryz.sizeOf5
  v5:=Tryz.zeroValue5
  t9:=Tryz.underlying9
  a9:=Tryz.isAgg9
  z9:=Tryz.sizeOf9
  v9:=Tryz.zeroValue9
  t21:=Tryz.underlying21
  a21:=Tryz.isAgg21
  z21:=Tryz.sizeOf21
  v21:=Tryz.zeroValue21
  t46:=Tryz.underlying117
  a46:=Tryz.isAgg117
  z46:=Tryz.sizeOf117
  v46:=Tryz.zeroValue117
  t105:=Tryz.underlying252
  a105:=Tryz.isAgg252
  z105:=Tryz.sizeOf252
  v105:=Tryz.zeroValue252
  t116:=Tryz.underlying235
  a116:=Tryz.isAgg235
  z116:=Tryz.sizeOf235
  t117:=Tryz.underlying236
  a117:=Tryz.isAgg236
  z117:=Tryz.sizeOf236
  v117:=Tryz.zeroValue236
  t119:=Tryz.underlying266
  a119:=Tryz.isAgg266
  z119:=Tryz.sizeOf266
  t124:=Tryz.underlying239
  a124:=Tryz.isAgg239
  z124:=Tryz.sizeOf239
  v124:=Tryz.zeroValue239
  t138:=Tryz.underlying268
  a138:=Tryz.isAgg268
  z138:=Tryz.sizeOf268
  v138:=Tryz.zeroValue268
  t139:=Tryz.underlying269
  a139:=Tryz.isAgg269
  z139:=Tryz.sizeOf269
  v139:=Tryz.zeroValue269
  g3:=by kernel_rfl
  g4:=by kernel_rfl }
end Go.Proofs
