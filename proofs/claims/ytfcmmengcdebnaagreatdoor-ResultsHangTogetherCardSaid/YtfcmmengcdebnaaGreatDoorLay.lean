/-
  DERIVED: THE SHELF's CONTRACTS AT THIS DUMP,IN PLAIN WORDS (tools/lay-plain.mjs out of 'YtfcmmengcdebnaaGreatDoorLay.lean',which tools/lay-shelf.mjs wrote): THE SAME DECLARATIONS UNDER THE SAME NAMES: 'import','namespace','open','def','theorem' AND NOTHING ELSE: no command of the shelf's: FOR A HAND-IN. Each laying: the table of numbers ('.._ren') and one theorem,a field a fact of the dump's own or the kernel's comparison; each contract: ONE APPLICATION.
-/
import Derived.Test.YtfcmmengcdebnaaGreatDoorProg
import Derived.Shelf.Small.Strs
import Derived.Shelf.Strings.SlTrimAscii
namespace Go.Proofs
open Go.Shelf
def Tryz.lays106_ren : Go.Shelf.Ren:=⟨fun | 106=>53 | 213=>89 | 265=>112 | n=>n,fun | 9=>9 | 3=>3 | n=>n,fun | n=>n⟩
theorem Tryz.lays106 : Go.Proofs.Lays.n106 Tryz.prog Tryz.lays106_ren:={
  mixed:=by kernel_rfl
  f106:=Tryz.func53.trans (congrArg some (by kernel_rfl))
  f213:=Tryz.func89.trans (congrArg some (by kernel_rfl))
  f265:=Tryz.func112.trans (congrArg some (by kernel_rfl))
  t3:=Tryz.underlying3
  a3:=Tryz.isAgg3
  z3:=Tryz.sizeOf3
  v3:=Tryz.zeroValue3
  t9:=Tryz.underlying9
  a9:=Tryz.isAgg9
  z9:=Tryz.sizeOf9
  v9:=Tryz.zeroValue9 }
def Tryz.lays137_ren : Go.Shelf.Ren:=⟨fun | 137=>121 | 217=>150 | 266=>165 | n=>n,fun | 9=>9 | 5=>5 | 3=>3 | n=>n,fun | n=>n⟩
theorem Tryz.lays137 : Go.Proofs.Lays.n137 Tryz.prog Tryz.lays137_ren:={
  mixed:=by kernel_rfl
  f137:=Tryz.func121.trans (congrArg some (by kernel_rfl))
  f217:=Tryz.func150.trans (congrArg some (by kernel_rfl))
  f266:=Tryz.func165.trans (congrArg some (by kernel_rfl))
  t3:=Tryz.underlying3
  a3:=Tryz.isAgg3
  z3:=Tryz.sizeOf3
  v3:=Tryz.zeroValue3
  t5:=Tryz.underlying5
  a5:=Tryz.isAgg5
  z5:=Tryz.sizeOf5
  v5:=Tryz.zeroValue5
  t9:=Tryz.underlying9
  a9:=Tryz.isAgg9
  z9:=Tryz.sizeOf9
  v9:=Tryz.zeroValue9 }
def Tryz.lays160_ren : Go.Shelf.Ren:=⟨fun | 160=>117 | 232=>143 | 231=>142 | 227=>144 | 234=>146 | 233=>145 | 236=>148 | 235=>147 | 228=>161 | 271=>164 | 151=>163 | 197=>162 | 120=>172 | 152=>171 | 260=>170 | 137=>121 | 119=>174 | 224=>175 | 225=>176 | 217=>150 | 266=>165 | n=>n,fun | 9=>9 | 4=>4 | 3=>3 | 5=>5 | 117=>227 | 116=>226 | 0=>0 | 124=>230 | 21=>21 | 105=>244 | 46=>193 | 119=>254 | 139=>257 | 138=>256 | n=>n,fun | 3=>3 | 4=>4 | n=>n⟩
theorem Tryz.lays160 : Go.Proofs.Lays.n160 Tryz.prog Tryz.lays160_ren:={
  mixed:=by kernel_rfl
  f119:=Tryz.func174.trans (congrArg some (by kernel_rfl))
  f120:=Tryz.func172.trans (congrArg some (by kernel_rfl))
  f137:=Tryz.func121.trans (congrArg some (by kernel_rfl))
  f151:=Tryz.func163.trans (congrArg some (by kernel_rfl))
  f152:=Tryz.func171.trans (congrArg some (by kernel_rfl))
  f160:=Tryz.func117.trans (congrArg some (by kernel_rfl))
  f197:=Tryz.func162.trans (congrArg some (by kernel_rfl))
  f217:=Tryz.func150.trans (congrArg some (by kernel_rfl))
  f224:=Tryz.func175.trans (congrArg some (by kernel_rfl))
  f225:=Tryz.func176.trans (congrArg some (by kernel_rfl))
  f227:=Tryz.func144.trans (congrArg some (by kernel_rfl))
  f228:=Tryz.func161.trans (congrArg some (by kernel_rfl))
  f231:=Tryz.func142.trans (congrArg some (by kernel_rfl))
  f232:=Tryz.func143.trans (congrArg some (by kernel_rfl))
  f233:=Tryz.func145.trans (congrArg some (by kernel_rfl))
  f234:=Tryz.func146.trans (congrArg some (by kernel_rfl))
  f235:=Tryz.func147.trans (congrArg some (by kernel_rfl))
  f236:=Tryz.func148.trans (congrArg some (by kernel_rfl))
  f260:=Tryz.func170.trans (congrArg some (by kernel_rfl))
  f266:=Tryz.func165.trans (congrArg some (by kernel_rfl))
  f271:=Tryz.func164.trans (congrArg some (by kernel_rfl))
  t0:=Tryz.underlying0
  a0:=Tryz.isAgg0
  z0:=Tryz.sizeOf0
  v0:=Tryz.zeroValue0
  t3:=Tryz.underlying3
  a3:=Tryz.isAgg3
  z3:=Tryz.sizeOf3
  v3:=Tryz.zeroValue3
  t4:=Tryz.underlying4
  a4:=Tryz.isAgg4
  z4:=Tryz.sizeOf4
  v4:=Tryz.zeroValue4
  t5:=Tryz.underlying5
  a5:=Tryz.isAgg5
  z5:=Tryz.sizeOf5
  v5:=Tryz.zeroValue5
  t9:=Tryz.underlying9
  a9:=Tryz.isAgg9
  z9:=Tryz.sizeOf9
  v9:=Tryz.zeroValue9
  t21:=Tryz.underlying21
  a21:=Tryz.isAgg21
  z21:=Tryz.sizeOf21
  v21:=Tryz.zeroValue21
  t46:=Tryz.underlying193
  a46:=Tryz.isAgg193
  z46:=Tryz.sizeOf193
  v46:=Tryz.zeroValue193
  t105:=Tryz.underlying244
  a105:=Tryz.isAgg244
  z105:=Tryz.sizeOf244
  v105:=Tryz.zeroValue244
  t116:=Tryz.underlying226
  a116:=Tryz.isAgg226
  z116:=Tryz.sizeOf226
  t117:=Tryz.underlying227
  a117:=Tryz.isAgg227
  z117:=Tryz.sizeOf227
  v117:=Tryz.zeroValue227
  t119:=Tryz.underlying254
  a119:=Tryz.isAgg254
  z119:=Tryz.sizeOf254
  t124:=Tryz.underlying230
  a124:=Tryz.isAgg230
  z124:=Tryz.sizeOf230
  v124:=Tryz.zeroValue230
  t138:=Tryz.underlying256
  a138:=Tryz.isAgg256
  z138:=Tryz.sizeOf256
  v138:=Tryz.zeroValue256
  t139:=Tryz.underlying257
  a139:=Tryz.isAgg257
  z139:=Tryz.sizeOf257
  v139:=Tryz.zeroValue257
  g3:=by kernel_rfl
  g4:=by kernel_rfl }
end Go.Proofs
