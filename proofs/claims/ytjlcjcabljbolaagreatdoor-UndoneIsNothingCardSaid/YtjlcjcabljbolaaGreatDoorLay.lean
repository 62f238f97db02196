/-
  DERIVED: THE SHELF's CONTRACTS AT THIS DUMP,IN PLAIN WORDS (tools/lay-plain.mjs out of 'YtjlcjcabljbolaaGreatDoorLay.lean',which tools/lay-shelf.mjs wrote): THE SAME DECLARATIONS UNDER THE SAME NAMES: 'import','namespace','open','def','theorem' AND NOTHING ELSE: no command of the shelf's: FOR A HAND-IN. Each laying: the table of numbers ('.._ren') and one theorem,a field a fact of the dump's own or the kernel's comparison; each contract: ONE APPLICATION.
-/
import Derived.Test.YtjlcjcabljbolaaGreatDoorProg
import Derived.Shelf.Small.Strs
import Derived.Shelf.Strings.SlTrimAscii
namespace Go.Proofs
open Go.Shelf
def Tryz.lays106_ren : Go.Shelf.Ren:=⟨fun | 106=>46 | 213=>83 | 265=>105 | n=>n,fun | 9=>9 | 3=>3 | n=>n,fun | n=>n⟩
theorem Tryz.lays106 : Go.Proofs.Lays.n106 Tryz.prog Tryz.lays106_ren:={
  mixed:=by kernel_rfl
  f106:=Tryz.func46.trans (congrArg some (by kernel_rfl))
  f213:=Tryz.func83.trans (congrArg some (by kernel_rfl))
  f265:=Tryz.func105.trans (congrArg some (by kernel_rfl))
  t3:=Tryz.underlying3
  a3:=Tryz.isAgg3
  z3:=Tryz.sizeOf3
  v3:=Tryz.zeroValue3
  t9:=Tryz.underlying9
  a9:=Tryz.isAgg9
  z9:=Tryz.sizeOf9
  v9:=Tryz.zeroValue9 }
def Tryz.lays137_ren : Go.Shelf.Ren:=⟨fun | 137=>114 | 217=>136 | 266=>154 | n=>n,fun | 9=>9 | 5=>5 | 3=>3 | n=>n,fun | n=>n⟩
theorem Tryz.lays137 : Go.Proofs.Lays.n137 Tryz.prog Tryz.lays137_ren:={
  mixed:=by kernel_rfl
  f137:=Tryz.func114.trans (congrArg some (by kernel_rfl))
  f217:=Tryz.func136.trans (congrArg some (by kernel_rfl))
  f266:=Tryz.func154.trans (congrArg some (by kernel_rfl))
  t3:=Tryz.underlying3
  a3:=Tryz.isAgg3
  z3:=Tryz.sizeOf3
  v3:=Tryz.zeroValue3
  t5:=Tryz.underlying5
  a5:=Tryz.isAgg5
  z5:=Tryz.sizeOf5
  v5:=Tryz.zeroValue5
  t9:=Tryz.underlying9
  a9:=Tryz.isAgg9
  z9:=Tryz.sizeOf9
  v9:=Tryz.zeroValue9 }
def Tryz.lays160_ren : Go.Shelf.Ren:=⟨fun | 160=>110 | 232=>128 | 231=>127 | 227=>129 | 234=>131 | 233=>130 | 236=>133 | 235=>132 | 228=>150 | 271=>153 | 151=>152 | 197=>151 | 120=>165 | 152=>164 | 260=>163 | 137=>114 | 119=>168 | 224=>169 | 225=>170 | 217=>136 | 266=>154 | n=>n,fun | 9=>9 | 4=>4 | 3=>3 | 5=>5 | 117=>206 | 116=>205 | 0=>0 | 124=>209 | 21=>21 | 105=>226 | 46=>190 | 119=>242 | 139=>245 | 138=>244 | n=>n,fun | 3=>3 | 4=>4 | n=>n⟩
theorem Tryz.lays160 : Go.Proofs.Lays.n160 Tryz.prog Tryz.lays160_ren:={
  mixed:=by kernel_rfl
  f119:=Tryz.func168.trans (congrArg some (by kernel_rfl))
  f120:=Tryz.func165.trans (congrArg some (by kernel_rfl))
  f137:=Tryz.func114.trans (congrArg some (by kernel_rfl))
  f151:=Tryz.func152.trans (congrArg some (by kernel_rfl))
  f152:=Tryz.func164.trans (congrArg some (by kernel_rfl))
  f160:=Tryz.func110.trans (congrArg some (by kernel_rfl))
  f197:=Tryz.func151.trans (congrArg some (by kernel_rfl))
  f217:=Tryz.func136.trans (congrArg some (by kernel_rfl))
  f224:=Tryz.func169.trans (congrArg some (by kernel_rfl))
  f225:=Tryz.func170.trans (congrArg some (by kernel_rfl))
  f227:=Tryz.func129.trans (congrArg some (by kernel_rfl))
  f228:=Tryz.func150.trans (congrArg some (by kernel_rfl))
  f231:=Tryz.func127.trans (congrArg some (by kernel_rfl))
  f232:=Tryz.func128.trans (congrArg some (by kernel_rfl))
  f233:=Tryz.func130.trans (congrArg some (by kernel_rfl))
  f234:=Tryz.func131.trans (congrArg some (by kernel_rfl))
  f235:=Tryz.func132.trans (congrArg some (by kernel_rfl))
  f236:=Tryz.func133.trans (congrArg some (by kernel_rfl))
  f260:=Tryz.func163.trans (congrArg some (by kernel_rfl))
  f266:=Tryz.func154.trans (congrArg some (by kernel_rfl))
  f271:=Tryz.func153.trans (congrArg some (by kernel_rfl))
  t0:=Tryz.underlying0
  a0:=Tryz.isAgg0
  z0:=Tryz.sizeOf0
  v0:=Tryz.zeroValue0
  t3:=Tryz.underlying3
  a3:=Tryz.isAgg3
  z3:=Tryz.sizeOf3
  v3:=Tryz.zeroValue3
  t4:=Tryz.underlying4
  a4:=Tryz.isAgg4
  z4:=Tryz.sizeOf4
  v4:=Tryz.zeroValue4
  t5:=Tryz.underlying5
  a5:=Tryz.isAgg5
  z5:=Tryz.sizeOf5
  v5:=Tryz.zeroValue5
  t9:=Tryz.underlying9
  a9:=Tryz.isAgg9
  z9:=Tryz.sizeOf9
  v9:=Tryz.zeroValue9
  t21:=Tryz.underlying21
  a21:=Tryz.isAgg21
  z21:=Tryz.sizeOf21
  v21:=Tryz.zeroValue21
  t46:=Tryz.underlying190
  a46:=Tryz.isAgg190
  z46:=Tryz.sizeOf190
  v46:=Tryz.zeroValue190
  t105:=Tryz.underlying226
  a105:=Tryz.isAgg226
  z105:=Tryz.sizeOf226
  v105:=Tryz.zeroValue226
  t116:=Tryz.underlying205
  a116:=Tryz.isAgg205
  z116:=Tryz.sizeOf205
  t117:=Tryz.underlying206
  a117:=Tryz.isAgg206
  z117:=Tryz.sizeOf206
  v117:=Tryz.zeroValue206
  t119:=Tryz.underlying242
  a119:=Tryz.isAgg242
  z119:=Tryz.sizeOf242
  t124:=Tryz.underlying209
  a124:=Tryz.isAgg209
  z124:=Tryz.sizeOf209
  v124:=Tryz.zeroValue209
  t138:=Tryz.underlying244
  a138:=Tryz.isAgg244
  z138:=Tryz.sizeOf244
  v138:=Tryz.zeroValue244
  t139:=Tryz.underlying245
  a139:=Tryz.isAgg245
  z139:=Tryz.sizeOf245
  v139:=Tryz.zeroValue245
  g3:=by kernel_rfl
  g4:=by kernel_rfl }
end Go.Proofs
