/-
  DERIVED: THE SHELF's CONTRACTS AT THIS DUMP,IN PLAIN WORDS (tools/lay-plain.mjs out of 'YtombbefepcipcaaGreatDoorLay.lean',which tools/lay-shelf.mjs wrote): THE SAME DECLARATIONS UNDER THE SAME NAMES: 'import','namespace','open','def','theorem' AND NOTHING ELSE: no command of the shelf's: FOR A HAND-IN. Each laying: the table of numbers ('.._ren') and one theorem,a field a fact of the dump's own or the kernel's comparison; each contract: ONE APPLICATION.
-/
import Derived.Test.YtombbefepcipcaaGreatDoorProg
import Derived.Shelf.Small.Strs
import Derived.Shelf.Spec.SlicesGrow
import Derived.Shelf.Strings.SlTrimAscii
namespace Go.Proofs
open Go.Shelf
def Tryz.laysg77_ren : Go.Shelf.Ren:=⟨fun | 4=>77 | n=>n,fun | 22=>22 | 25=>3 | 3=>3 | 4=>4 | 9=>9 | 20=>20 | 0=>0 | n=>n,fun | n=>n⟩
theorem Tryz.laysg77 : Go.Proofs.Lays8.n4 Tryz.prog Tryz.laysg77_ren:={
  mixed:=by kernel_rfl
  f4:=⟨Tryz.f77.name,by decide,Tryz.func77.trans (congrArg some (by kernel_rfl))⟩
  t0:=Tryz.underlying0
  a0:=Tryz.isAgg0
  z0:=Tryz.sizeOf0
  v0:=Tryz.zeroValue0
  t3:=Tryz.underlying3
  a3:=Tryz.isAgg3
  z3:=Tryz.sizeOf3
  v3:=Tryz.zeroValue3
  t4:=Tryz.underlying4
  a4:=Tryz.isAgg4
  z4:=Tryz.sizeOf4
  v4:=Tryz.zeroValue4
  t9:=Tryz.underlying9
  a9:=Tryz.isAgg9
  z9:=Tryz.sizeOf9
  v9:=Tryz.zeroValue9
  t20:=Tryz.underlying20
  a20:=Tryz.isAgg20
  z20:=Tryz.sizeOf20
  v20:=Tryz.zeroValue20
  t22:=Tryz.underlying22
  a22:=Tryz.isAgg22
  z22:=Tryz.sizeOf22
  v22:=Tryz.zeroValue22 }
def Tryz.lays106_ren : Go.Shelf.Ren:=⟨fun | 106=>24 | 213=>42 | 265=>76 | n=>n,fun | 9=>9 | 3=>3 | n=>n,fun | n=>n⟩
theorem Tryz.lays106 : Go.Proofs.Lays.n106 Tryz.prog Tryz.lays106_ren:={
  mixed:=by kernel_rfl
  f106:=Tryz.func24.trans (congrArg some (by kernel_rfl))
  f213:=Tryz.func42.trans (congrArg some (by kernel_rfl))
  f265:=Tryz.func76.trans (congrArg some (by kernel_rfl))
  t3:=Tryz.underlying3
  a3:=Tryz.isAgg3
  z3:=Tryz.sizeOf3
  v3:=Tryz.zeroValue3
  t9:=Tryz.underlying9
  a9:=Tryz.isAgg9
  z9:=Tryz.sizeOf9
  v9:=Tryz.zeroValue9 }
def Tryz.lays160_ren : Go.Shelf.Ren:=⟨fun | 160=>75 | 232=>92 | 231=>91 | 227=>93 | 234=>95 | 233=>94 | 236=>97 | 235=>96 | 228=>102 | 271=>105 | 151=>104 | 197=>103 | 120=>109 | 152=>108 | 260=>107 | 137=>118 | 119=>119 | 224=>120 | 225=>121 | 217=>125 | 266=>127 | n=>n,fun | 9=>9 | 4=>4 | 3=>3 | 5=>5 | 117=>150 | 116=>149 | 0=>0 | 124=>153 | 21=>21 | 105=>164 | 46=>97 | 119=>174 | 139=>177 | 138=>176 | n=>n,fun | 3=>3 | 4=>4 | n=>n⟩
theorem Tryz.lays160 : Go.Proofs.Lays.n160 Tryz.prog Tryz.lays160_ren:={
  mixed:=by kernel_rfl
  f119:=Tryz.func119.trans (congrArg some (by kernel_rfl))
  f120:=Tryz.func109.trans (congrArg some (by kernel_rfl))
  f137:=Tryz.func118.trans (congrArg some (by kernel_rfl))
  f151:=Tryz.func104.trans (congrArg some (by kernel_rfl))
  f152:=Tryz.func108.trans (congrArg some (by kernel_rfl))
  f160:=Tryz.func75.trans (congrArg some (by kernel_rfl))
  f197:=Tryz.func103.trans (congrArg some (by kernel_rfl))
  f217:=Tryz.func125.trans (congrArg some (by kernel_rfl))
  f224:=Tryz.func120.trans (congrArg some (by kernel_rfl))
  f225:=Tryz.func121.trans (congrArg some (by kernel_rfl))
  f227:=Tryz.func93.trans (congrArg some (by kernel_rfl))
  f228:=Tryz.func102.trans (congrArg some (by kernel_rfl))
  f231:=Tryz.func91.trans (congrArg some (by kernel_rfl))
  f232:=Tryz.func92.trans (congrArg some (by kernel_rfl))
  f233:=Tryz.func94.trans (congrArg some (by kernel_rfl))
  f234:=Tryz.func95.trans (congrArg some (by kernel_rfl))
  f235:=Tryz.func96.trans (congrArg some (by kernel_rfl))
  f236:=Tryz.func97.trans (congrArg some (by kernel_rfl))
  f260:=Tryz.func107.trans (congrArg some (by kernel_rfl))
  f266:=Tryz.func127.trans (congrArg some (by kernel_rfl))
  f271:=Tryz.func105.trans (congrArg some (by kernel_rfl))
  t0:=Tryz.underlying0
  a0:=Tryz.isAgg0
  z0:=Tryz.sizeOf0
  v0:=Tryz.zeroValue0
  t3:=Tryz.underlying3
  a3:=Tryz.isAgg3
  z3:=Tryz.sizeOf3
  v3:=Tryz.zeroValue3
  t4:=Tryz.underlying4
  a4:=Tryz.isAgg4
  z4:=Tryz.sizeOf4
  v4:=Tryz.zeroValue4
  t5:=Tryz.underlying5
  a5:=Tryz.isAgg5
  z5:=Tryz.sizeOf5
  v5:=Tryz.zeroValue5
  t9:=Tryz.underlying9
  a9:=Tryz.isAgg9
  z9:=Tryz.sizeOf9
  v9:=Tryz.zeroValue9
  t21:=Tryz.underlying21
  a21:=Tryz.isAgg21
  z21:=Tryz.sizeOf21
  v21:=Tryz.zeroValue21
  t46:=Tryz.underlying97
  a46:=Tryz.isAgg97
  z46:=Tryz.sizeOf97
  v46:=Tryz.zeroValue97
  t105:=Tryz.underlying164
  a105:=Tryz.isAgg164
  z105:=Tryz.sizeOf164
  v105:=Tryz.zeroValue164
  t116:=Tryz.underlying149
  a116:=Tryz.isAgg149
  z116:=Tryz.sizeOf149
  t117:=Tryz.underlying150
  a117:=Tryz.isAgg150
  z117:=Tryz.sizeOf150
  v117:=Tryz.zeroValue150
  t119:=Tryz.underlying174
  a119:=Tryz.isAgg174
  z119:=Tryz.sizeOf174
  t124:=Tryz.underlying153
  a124:=Tryz.isAgg153
  z124:=Tryz.sizeOf153
  v124:=Tryz.zeroValue153
  t138:=Tryz.underlying176
  a138:=Tryz.isAgg176
  z138:=Tryz.sizeOf176
  v138:=Tryz.zeroValue176
  t139:=Tryz.underlying177
  a139:=Tryz.isAgg177
  z139:=Tryz.sizeOf177
  v139:=Tryz.zeroValue177
  g3:=by kernel_rfl
  g4:=by kernel_rfl }
end Go.Proofs
