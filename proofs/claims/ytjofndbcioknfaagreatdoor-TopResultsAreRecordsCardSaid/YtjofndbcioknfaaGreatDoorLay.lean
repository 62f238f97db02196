/-
  DERIVED: THE SHELF's CONTRACTS AT THIS DUMP,IN PLAIN WORDS (tools/lay-plain.mjs out of 'YtjofndbcioknfaaGreatDoorLay.lean',which tools/lay-shelf.mjs wrote): THE SAME DECLARATIONS UNDER THE SAME NAMES: 'import','namespace','open','def','theorem' AND NOTHING ELSE: no command of the shelf's: FOR A HAND-IN. Each laying: the table of numbers ('.._ren') and one theorem,a field a fact of the dump's own or the kernel's comparison; each contract: ONE APPLICATION.
-/
import Derived.Test.YtjofndbcioknfaaGreatDoorProg
import Derived.Shelf.Small.Strs
import Derived.Shelf.Strings.SlTrimAscii
namespace Go.Proofs
open Go.Shelf
def Tryz.lays106_ren : Go.Shelf.Ren:=⟨fun | 106=>48 | 213=>90 | 265=>127 | n=>n,fun | 9=>9 | 3=>3 | n=>n,fun | n=>n⟩
theorem Tryz.lays106 : Go.Proofs.Lays.n106 Tryz.prog Tryz.lays106_ren:={
  mixed:=by kernel_rfl
  f106:=Tryz.func48.trans (congrArg some (by kernel_rfl))
  f213:=Tryz.func90.trans (congrArg some (by kernel_rfl))
  f265:=Tryz.func127.trans (congrArg some (by kernel_rfl))
  t3:=Tryz.underlying3
  a3:=Tryz.isAgg3
  z3:=Tryz.sizeOf3
  v3:=Tryz.zeroValue3
  t9:=Tryz.underlying9
  a9:=Tryz.isAgg9
  z9:=Tryz.sizeOf9
  v9:=Tryz.zeroValue9 }
def Tryz.lays137_ren : Go.Shelf.Ren:=⟨fun | 137=>139 | 217=>163 | 266=>182 | n=>n,fun | 9=>9 | 5=>5 | 3=>3 | n=>n,fun | n=>n⟩
theorem Tryz.lays137 : Go.Proofs.Lays.n137 Tryz.prog Tryz.lays137_ren:={
  mixed:=by kernel_rfl
  f137:=Tryz.func139.trans (congrArg some (by kernel_rfl))
  f217:=Tryz.func163.trans (congrArg some (by kernel_rfl))
  f266:=Tryz.func182.trans (congrArg some (by kernel_rfl))
  t3:=Tryz.underlying3
  a3:=Tryz.isAgg3
  z3:=Tryz.sizeOf3
  v3:=Tryz.zeroValue3
  t5:=Tryz.underlying5
  a5:=Tryz.isAgg5
  z5:=Tryz.sizeOf5
  v5:=Tryz.zeroValue5
  t9:=Tryz.underlying9
  a9:=Tryz.isAgg9
  z9:=Tryz.sizeOf9
  v9:=Tryz.zeroValue9 }
def Tryz.lays160_ren : Go.Shelf.Ren:=⟨fun | 160=>136 | 232=>156 | 231=>155 | 227=>157 | 234=>159 | 233=>158 | 236=>161 | 235=>160 | 228=>178 | 271=>181 | 151=>180 | 197=>179 | 120=>191 | 152=>190 | 260=>189 | 137=>139 | 119=>194 | 224=>195 | 225=>196 | 217=>163 | 266=>182 | n=>n,fun | 9=>9 | 4=>4 | 3=>3 | 5=>5 | 117=>248 | 116=>247 | 0=>0 | 124=>251 | 21=>21 | 105=>264 | 46=>76 | 119=>274 | 139=>277 | 138=>276 | n=>n,fun | 3=>3 | 4=>4 | n=>n⟩
theorem Tryz.lays160 : Go.Proofs.Lays.n160 Tryz.prog Tryz.lays160_ren:={
  mixed:=by kernel_rfl
  f119:=Tryz.func194.trans (congrArg some (by kernel_rfl))
  f120:=Tryz.func191.trans (congrArg some (by kernel_rfl))
  f137:=Tryz.func139.trans (congrArg some (by kernel_rfl))
  f151:=Tryz.func180.trans (congrArg some (by kernel_rfl))
  f152:=Tryz.func190.trans (congrArg some (by kernel_rfl))
  f160:=Tryz.func136.trans (congrArg some (by kernel_rfl))
  f197:=Tryz.func179.trans (congrArg some (by kernel_rfl))
  f217:=Tryz.func163.trans (congrArg some (by kernel_rfl))
  f224:=Tryz.func195.trans (congrArg some (by kernel_rfl))
  f225:=Tryz.func196.trans (congrArg some (by kernel_rfl))
  f227:=Tryz.func157.trans (congrArg some (by kernel_rfl))
  f228:=Tryz.func178.trans (congrArg some (by kernel_rfl))
  f231:=Tryz.func155.trans (congrArg some (by kernel_rfl))
  f232:=Tryz.func156.trans (congrArg some (by kernel_rfl))
  f233:=Tryz.func158.trans (congrArg some (by kernel_rfl))
  f234:=Tryz.func159.trans (congrArg some (by kernel_rfl))
  f235:=Tryz.func160.trans (congrArg some (by kernel_rfl))
  f236:=Tryz.func161.trans (congrArg some (by kernel_rfl))
  f260:=Tryz.func189.trans (congrArg some (by kernel_rfl))
  f266:=Tryz.func182.trans (congrArg some (by kernel_rfl))
  f271:=Tryz.func181.trans (congrArg some (by kernel_rfl))
  t0:=Tryz.underlying0
  a0:=Tryz.isAgg0
  z0:=Tryz.sizeOf0
  v0:=Tryz.zeroValue0
  t3:=Tryz.underlying3
  a3:=Tryz.isAgg3
  z3:=Tryz.sizeOf3
  v3:=Tryz.zeroValue3
  t4:=Tryz.underlying4
  a4:=Tryz.isAgg4
  z4:=Tryz.sizeOf4
  v4:=Tryz.zeroValue4
  t5:=Tryz.underlying5
  a5:=Tryz.isAgg5
  z5:=Tryz.sizeOf5
  v5:=Tryz.zeroValue5
  t9:=Tryz.underlying9
  a9:=Tryz.isAgg9
  z9:=Tryz.sizeOf9
  v9:=Tryz.zeroValue9
  t21:=Tryz.underlying21
  a21:=Tryz.isAgg21
  z21:=Tryz.sizeOf21
  v21:=Tryz.zeroValue21
  t46:=Tryz.underlying76
  a46:=Tryz.isAgg76
  z46:=Tryz.sizeOf76
  v46:=Tryz.zeroValue76
  t105:=Tryz.underlying264
  a105:=Tryz.isAgg264
  z105:=Tryz.sizeOf264
  v105:=Tryz.zeroValue264
  t116:=Tryz.underlying247
  a116:=Tryz.isAgg247
  z116:=Tryz.sizeOf247
  t117:=Tryz.underlying248
  a117:=Tryz.isAgg248
  z117:=Tryz.sizeOf248
  v117:=Tryz.zeroValue248
  t119:=Tryz.underlying274
  a119:=Tryz.isAgg274
  z119:=Tryz.sizeOf274
  t124:=Tryz.underlying251
  a124:=Tryz.isAgg251
  z124:=Tryz.sizeOf251
  v124:=Tryz.zeroValue251
  t138:=Tryz.underlying276
  a138:=Tryz.isAgg276
  z138:=Tryz.sizeOf276
  v138:=Tryz.zeroValue276
  t139:=Tryz.underlying277
  a139:=Tryz.isAgg277
  z139:=Tryz.sizeOf277
  v139:=Tryz.zeroValue277
  g3:=by kernel_rfl
  g4:=by kernel_rfl }
end Go.Proofs
