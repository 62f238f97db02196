/-
  DERIVED: THE SHELF's CONTRACTS AT THIS DUMP,IN PLAIN WORDS (tools/lay-plain.mjs out of 'YtcgffkkagmkhkaaGreatDoorLay.lean',which tools/lay-shelf.mjs wrote): THE SAME DECLARATIONS UNDER THE SAME NAMES: 'import','namespace','open','def','theorem' AND NOTHING ELSE: no command of the shelf's: FOR A HAND-IN. Each laying: the table of numbers ('.._ren') and one theorem,a field a fact of the dump's own or the kernel's comparison; each contract: ONE APPLICATION.
-/
import Derived.Test.YtcgffkkagmkhkaaGreatDoorProg
import Derived.Shelf.Small.Strs
import Derived.Shelf.Spec.SlicesGrow
import Derived.Shelf.Strings.SlTrimAscii
namespace Go.Proofs
open Go.Shelf
def Tryz.laysg90_ren : Go.Shelf.Ren:=⟨fun | 4=>90 | n=>n,fun | 22=>22 | 25=>3 | 3=>3 | 4=>4 | 9=>9 | 20=>20 | 0=>0 | n=>n,fun | n=>n⟩
theorem Tryz.laysg90 : Go.Proofs.Lays8.n4 Tryz.prog Tryz.laysg90_ren:={
  mixed:=by kernel_rfl
  f4:=⟨Tryz.f90.name,by decide,Tryz.func90.trans (congrArg some (by kernel_rfl))⟩
  t0:=Tryz.underlying0
  a0:=Tryz.isAgg0
  z0:=Tryz.sizeOf0
  v0:=Tryz.zeroValue0
  t3:=Tryz.underlying3
  a3:=Tryz.isAgg3
  z3:=Tryz.sizeOf3
  v3:=Tryz.zeroValue3
  t4:=Tryz.underlying4
  a4:=Tryz.isAgg4
  z4:=Tryz.sizeOf4
  v4:=Tryz.zeroValue4
  t9:=Tryz.underlying9
  a9:=Tryz.isAgg9
  z9:=Tryz.sizeOf9
  v9:=Tryz.zeroValue9
  t20:=Tryz.underlying20
  a20:=Tryz.isAgg20
  z20:=Tryz.sizeOf20
  v20:=Tryz.zeroValue20
  t22:=Tryz.underlying22
  a22:=Tryz.isAgg22
  z22:=Tryz.sizeOf22
  v22:=Tryz.zeroValue22 }
def Tryz.lays106_ren : Go.Shelf.Ren:=⟨fun | 106=>36 | 213=>55 | 265=>89 | n=>n,fun | 9=>9 | 3=>3 | n=>n,fun | n=>n⟩
theorem Tryz.lays106 : Go.Proofs.Lays.n106 Tryz.prog Tryz.lays106_ren:={
  mixed:=by kernel_rfl
  f106:=Tryz.func36.trans (congrArg some (by kernel_rfl))
  f213:=Tryz.func55.trans (congrArg some (by kernel_rfl))
  f265:=Tryz.func89.trans (congrArg some (by kernel_rfl))
  t3:=Tryz.underlying3
  a3:=Tryz.isAgg3
  z3:=Tryz.sizeOf3
  v3:=Tryz.zeroValue3
  t9:=Tryz.underlying9
  a9:=Tryz.isAgg9
  z9:=Tryz.sizeOf9
  v9:=Tryz.zeroValue9 }
def Tryz.lays160_ren : Go.Shelf.Ren:=⟨fun | 160=>86 | 232=>102 | 231=>101 | 227=>103 | 234=>105 | 233=>104 | 236=>107 | 235=>106 | 228=>111 | 271=>114 | 151=>113 | 197=>112 | 120=>125 | 152=>124 | 260=>123 | 137=>129 | 119=>130 | 224=>131 | 225=>132 | 217=>134 | 266=>135 | n=>n,fun | 9=>9 | 4=>4 | 3=>3 | 5=>5 | 117=>169 | 116=>168 | 0=>0 | 124=>172 | 21=>21 | 105=>180 | 46=>110 | 119=>191 | 139=>194 | 138=>193 | n=>n,fun | 3=>3 | 4=>4 | n=>n⟩
theorem Tryz.lays160 : Go.Proofs.Lays.n160 Tryz.prog Tryz.lays160_ren:={
  mixed:=by kernel_rfl
  f119:=Tryz.func130.trans (congrArg some (by kernel_rfl))
  f120:=Tryz.func125.trans (congrArg some (by kernel_rfl))
  f137:=Tryz.func129.trans (congrArg some (by kernel_rfl))
  f151:=Tryz.func113.trans (congrArg some (by kernel_rfl))
  f152:=Tryz.func124.trans (congrArg some (by kernel_rfl))
  f160:=Tryz.func86.trans (congrArg some (by kernel_rfl))
  f197:=Tryz.func112.trans (congrArg some (by kernel_rfl))
  f217:=Tryz.func134.trans (congrArg some (by kernel_rfl))
  f224:=Tryz.func131.trans (congrArg some (by kernel_rfl))
  f225:=Tryz.func132.trans (congrArg some (by kernel_rfl))
  f227:=Tryz.func103.trans (congrArg some (by kernel_rfl))
  f228:=Tryz.func111.trans (congrArg some (by kernel_rfl))
  f231:=Tryz.func101.trans (congrArg some (by kernel_rfl))
  f232:=Tryz.func102.trans (congrArg some (by kernel_rfl))
  f233:=Tryz.func104.trans (congrArg some (by kernel_rfl))
  f234:=Tryz.func105.trans (congrArg some (by kernel_rfl))
  f235:=Tryz.func106.trans (congrArg some (by kernel_rfl))
  f236:=Tryz.func107.trans (congrArg some (by kernel_rfl))
  f260:=Tryz.func123.trans (congrArg some (by kernel_rfl))
  f266:=Tryz.func135.trans (congrArg some (by kernel_rfl))
  f271:=Tryz.func114.trans (congrArg some (by kernel_rfl))
  t0:=Tryz.underlying0
  a0:=Tryz.isAgg0
  z0:=Tryz.sizeOf0
  v0:=Tryz.zeroValue0
  t3:=Tryz.underlying3
  a3:=Tryz.isAgg3
  z3:=Tryz.sizeOf3
  v3:=Tryz.zeroValue3
  t4:=Tryz.underlying4
  a4:=Tryz.isAgg4
  z4:=Tryz.sizeOf4
  v4:=Tryz.zeroValue4
  t5:=Tryz.underlying5
  a5:=Tryz.isAgg5
  z5:=Tryz.sizeOf5
  v5:=Tryz.zeroValue5
  t9:=Tryz.underlying9
  a9:=Tryz.isAgg9
  z9:=Tryz.sizeOf9
  v9:=Tryz.zeroValue9
  t21:=Tryz.underlying21
  a21:=Tryz.isAgg21
  z21:=Tryz.sizeOf21
  v21:=Tryz.zeroValue21
  t46:=Tryz.underlying110
  a46:=Tryz.isAgg110
  z46:=Tryz.sizeOf110
  v46:=Tryz.zeroValue110
  t105:=Tryz.underlying180
  a105:=Tryz.isAgg180
  z105:=Tryz.sizeOf180
  v105:=Tryz.zeroValue180
  t116:=Tryz.underlying168
  a116:=Tryz.isAgg168
  z116:=Tryz.sizeOf168
  t117:=Tryz.underlying169
  a117:=Tryz.isAgg169
  z117:=Tryz.sizeOf169
  v117:=Tryz.zeroValue169
  t119:=Tryz.underlying191
  a119:=Tryz.isAgg191
  z119:=Tryz.sizeOf191
  t124:=Tryz.underlying172
  a124:=Tryz.isAgg172
  z124:=Tryz.sizeOf172
  v124:=Tryz.zeroValue172
  t138:=Tryz.underlying193
  a138:=Tryz.isAgg193
  z138:=Tryz.sizeOf193
  v138:=Tryz.zeroValue193
  t139:=Tryz.underlying194
  a139:=Tryz.isAgg194
  z139:=Tryz.sizeOf194
  v139:=Tryz.zeroValue194
  g3:=by kernel_rfl
  g4:=by kernel_rfl }
end Go.Proofs
