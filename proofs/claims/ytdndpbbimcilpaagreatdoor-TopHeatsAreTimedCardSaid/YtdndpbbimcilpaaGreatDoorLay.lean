/-
  DERIVED: THE SHELF's CONTRACTS AT THIS DUMP,IN PLAIN WORDS (tools/lay-plain.mjs out of 'YtdndpbbimcilpaaGreatDoorLay.lean',which tools/lay-shelf.mjs wrote): THE SAME DECLARATIONS UNDER THE SAME NAMES: 'import','namespace','open','def','theorem' AND NOTHING ELSE: no command of the shelf's: FOR A HAND-IN. Each laying: the table of numbers ('.._ren') and one theorem,a field a fact of the dump's own or the kernel's comparison; each contract: ONE APPLICATION.
-/
import Derived.Test.YtdndpbbimcilpaaGreatDoorProg
import Derived.Shelf.Small.Strs
import Derived.Shelf.Strings.SlTrimAscii
namespace Go.Proofs
open Go.Shelf
def Tryz.lays106_ren : Go.Shelf.Ren:=⟨fun | 106=>80 | 213=>110 | 265=>134 | n=>n,fun | 9=>9 | 3=>3 | n=>n,fun | n=>n⟩
theorem Tryz.lays106 : Go.Proofs.Lays.n106 Tryz.prog Tryz.lays106_ren:={
  mixed:=by kernel_rfl
  f106:=Tryz.func80.trans (congrArg some (by kernel_rfl))
  f213:=Tryz.func110.trans (congrArg some (by kernel_rfl))
  f265:=Tryz.func134.trans (congrArg some (by kernel_rfl))
  t3:=Tryz.underlying3
  a3:=Tryz.isAgg3
  z3:=Tryz.sizeOf3
  v3:=Tryz.zeroValue3
  t9:=Tryz.underlying9
  a9:=Tryz.isAgg9
  z9:=Tryz.sizeOf9
  v9:=Tryz.zeroValue9 }
def Tryz.lays137_ren : Go.Shelf.Ren:=⟨fun | 137=>135 | 217=>152 | 266=>163 | n=>n,fun | 9=>9 | 5=>5 | 3=>3 | n=>n,fun | n=>n⟩
theorem Tryz.lays137 : Go.Proofs.Lays.n137 Tryz.prog Tryz.lays137_ren:={
  mixed:=by kernel_rfl
  f137:=Tryz.func135.trans (congrArg some (by kernel_rfl))
  f217:=Tryz.func152.trans (congrArg some (by kernel_rfl))
  f266:=Tryz.func163.trans (congrArg some (by kernel_rfl))
  t3:=Tryz.underlying3
  a3:=Tryz.isAgg3
  z3:=Tryz.sizeOf3
  v3:=Tryz.zeroValue3
  t5:=Tryz.underlying5
  a5:=Tryz.isAgg5
  z5:=Tryz.sizeOf5
  v5:=Tryz.zeroValue5
  t9:=Tryz.underlying9
  a9:=Tryz.isAgg9
  z9:=Tryz.sizeOf9
  v9:=Tryz.zeroValue9 }
def Tryz.lays160_ren : Go.Shelf.Ren:=⟨fun | 160=>96 | 232=>124 | 231=>123 | 227=>125 | 234=>127 | 233=>126 | 236=>129 | 235=>128 | 228=>147 | 271=>150 | 151=>149 | 197=>148 | 120=>162 | 152=>161 | 260=>160 | 137=>135 | 119=>174 | 224=>175 | 225=>176 | 217=>152 | 266=>163 | n=>n,fun | 9=>9 | 4=>4 | 3=>3 | 5=>5 | 117=>176 | 116=>175 | 0=>0 | 124=>179 | 21=>21 | 105=>197 | 46=>77 | 119=>213 | 139=>216 | 138=>215 | n=>n,fun | 3=>3 | 4=>4 | n=>n⟩
theorem Tryz.lays160 : Go.Proofs.Lays.n160 Tryz.prog Tryz.lays160_ren:={
  mixed:=by kernel_rfl
  f119:=Tryz.func174.trans (congrArg some (by kernel_rfl))
  f120:=Tryz.func162.trans (congrArg some (by kernel_rfl))
  f137:=Tryz.func135.trans (congrArg some (by kernel_rfl))
  f151:=Tryz.func149.trans (congrArg some (by kernel_rfl))
  f152:=Tryz.func161.trans (congrArg some (by kernel_rfl))
  f160:=Tryz.func96.trans (congrArg some (by kernel_rfl))
  f197:=Tryz.func148.trans (congrArg some (by kernel_rfl))
  f217:=Tryz.func152.trans (congrArg some (by kernel_rfl))
  f224:=Tryz.func175.trans (congrArg some (by kernel_rfl))
  f225:=Tryz.func176.trans (congrArg some (by kernel_rfl))
  f227:=Tryz.func125.trans (congrArg some (by kernel_rfl))
  f228:=Tryz.func147.trans (congrArg some (by kernel_rfl))
  f231:=Tryz.func123.trans (congrArg some (by kernel_rfl))
  f232:=Tryz.func124.trans (congrArg some (by kernel_rfl))
  f233:=Tryz.func126.trans (congrArg some (by kernel_rfl))
  f234:=Tryz.func127.trans (congrArg some (by kernel_rfl))
  f235:=Tryz.func128.trans (congrArg some (by kernel_rfl))
  f236:=Tryz.func129.trans (congrArg some (by kernel_rfl))
  f260:=Tryz.func160.trans (congrArg some (by kernel_rfl))
  f266:=Tryz.func163.trans (congrArg some (by kernel_rfl))
  f271:=Tryz.func150.trans (congrArg some (by kernel_rfl))
  t0:=Tryz.underlying0
  a0:=Tryz.isAgg0
  z0:=Tryz.sizeOf0
  v0:=Tryz.zeroValue0
  t3:=Tryz.underlying3
  a3:=Tryz.isAgg3
  z3:=Tryz.sizeOf3
  v3:=Tryz.zeroValue3
  t4:=Tryz.underlying4
  a4:=Tryz.isAgg4
  z4:=Tryz.sizeOf4
  v4:=Tryz.zeroValue4
  t5:=Tryz.underlying5
  a5:=Tryz.isAgg5
  z5:=Tryz.sizeOf5
  v5:=Tryz.zeroValue5
  t9:=Tryz.underlying9
  a9:=Tryz.isAgg9
  z9:=Tryz.sizeOf9
  v9:=Tryz.zeroValue9
  t21:=Tryz.underlying21
  a21:=Tryz.isAgg21
  z21:=Tryz.sizeOf21
  v21:=Tryz.zeroValue21
  t46:=Tryz.underlying77
  a46:=Tryz.isAgg77
  z46:=Tryz.sizeOf77
  v46:=Tryz.zeroValue77
  t105:=Tryz.underlying197
  a105:=Tryz.isAgg197
  z105:=Tryz.sizeOf197
  v105:=Tryz.zeroValue197
  t116:=Tryz.underlying175
  a116:=Tryz.isAgg175
  z116:=Tryz.sizeOf175
  t117:=Tryz.underlying176
  a117:=Tryz.isAgg176
  z117:=Tryz.sizeOf176
  v117:=Tryz.zeroValue176
  t119:=Tryz.underlying213
  a119:=Tryz.isAgg213
  z119:=Tryz.sizeOf213
  t124:=Tryz.underlying179
  a124:=Tryz.isAgg179
  z124:=Tryz.sizeOf179
  v124:=Tryz.zeroValue179
  t138:=Tryz.underlying215
  a138:=Tryz.isAgg215
  z138:=Tryz.sizeOf215
  v138:=Tryz.zeroValue215
  t139:=Tryz.underlying216
  a139:=Tryz.isAgg216
  z139:=Tryz.sizeOf216
  v139:=Tryz.zeroValue216
  g3:=by kernel_rfl
  g4:=by kernel_rfl }
end Go.Proofs
