/-
 DERIVED:THE SHELF's CONTRACTS AT THIS DUMP,IN PLAIN WORDS (tools/lay-plain.mjs out of 'TrySortS.lean',which tools/lay-shelf.mjs wrote):THE SAME DECLARATIONS UNDER THE SAME NAMES:'import','namespace','open','def','theorem' AND NOTHING ELSE:no command of the shelf's:FOR A HAND-IN. Each laying:the table of numbers ('.._ren') and one theorem,a field a fact of the dump's own or the kernel's comparison;each contract:ONE APPLICATION.
-/
import Derived.Shelf.Sort.Plain
import Derived.Shelf.Slices.In.SortNone
import Derived.Test.YtoojnagdenoknaaProg
set_option linter.unusedVariables false
set_option linter.unusedSimpArgs false
set_option linter.unusedSectionVars false
set_option linter.unnecessarySimpa false
namespace Go.Proofs
open Go.Shelf
def Try.lays189_ren:Go.Shelf.Ren:=⟨fun|189=>65|125=>94|257=>93|128=>115|129=>116|294=>106|295=>107|296=>108|297=>109|298=>110|299=>111|216=>112|300=>113|301=>114|328=>118|329=>119|330=>120|331=>121|332=>122|215=>123|343=>124|n=>n,fun|28=>36|3=>3|46=>126|0=>0|51=>179|53=>90|4=>4|183=>172|182=>171|131=>176|5=>5|9=>9|218=>183|222=>187|228=>189|229=>190|n=>n,fun|n=>n⟩
theorem Try.lays189:Go.Proofs.Lays.n189 Try.prog Try.lays189_ren:={
 mixed:=by kernel_rfl
 f125:=Try.func94.trans (congrArg some (by kernel_rfl))
 f128:=Try.func115.trans (congrArg some (by kernel_rfl))
 f129:=Try.func116.trans (congrArg some (by kernel_rfl))
 f189:=Try.func65.trans (congrArg some (by kernel_rfl))
 f215:=Try.func123.trans (congrArg some (by kernel_rfl))
 f216:=Try.func112.trans (congrArg some (by kernel_rfl))
 f257:=Try.func93.trans (congrArg some (by kernel_rfl))
 f294:=Try.func106.trans (congrArg some (by kernel_rfl))
 f295:=Try.func107.trans (congrArg some (by kernel_rfl))
 f296:=Try.func108.trans (congrArg some (by kernel_rfl))
 f297:=Try.func109.trans (congrArg some (by kernel_rfl))
 f298:=Try.func110.trans (congrArg some (by kernel_rfl))
 f299:=Try.func111.trans (congrArg some (by kernel_rfl))
 f300:=Try.func113.trans (congrArg some (by kernel_rfl))
 f301:=Try.func114.trans (congrArg some (by kernel_rfl))
 f328:=Try.func118.trans (congrArg some (by kernel_rfl))
 f329:=Try.func119.trans (congrArg some (by kernel_rfl))
 f330:=Try.func120.trans (congrArg some (by kernel_rfl))
 f331:=Try.func121.trans (congrArg some (by kernel_rfl))
 f332:=Try.func122.trans (congrArg some (by kernel_rfl))
 f343:=Try.func124.trans (congrArg some (by kernel_rfl))
 t0:=Try.underlying0
 a0:=Try.isAgg0
 z0:=Try.sizeOf0
 v0:=Try.zeroValue0
 t3:=Try.underlying3
 a3:=Try.isAgg3
 z3:=Try.sizeOf3
 v3:=Try.zeroValue3
 t4:=Try.underlying4
 a4:=Try.isAgg4
 z4:=Try.sizeOf4
 v4:=Try.zeroValue4
 t5:=Try.underlying5
 a5:=Try.isAgg5
 z5:=Try.sizeOf5
 v5:=Try.zeroValue5
 t9:=Try.underlying9
 a9:=Try.isAgg9
 z9:=Try.sizeOf9
 v9:=Try.zeroValue9
 t28:=Try.underlying36
 a28:=Try.isAgg36
 z28:=Try.sizeOf36
 v28:=Try.zeroValue36
 t46:=Try.underlying126
 a46:=Try.isAgg126
 z46:=Try.sizeOf126
 v46:=Try.zeroValue126
 t51:=Try.underlying179
 a51:=Try.isAgg179
 z51:=Try.sizeOf179
 v51:=Try.zeroValue179
 t53:=Try.underlying90
 a53:=Try.isAgg90
 z53:=Try.sizeOf90
 v53:=Try.zeroValue90
 t131:=Try.underlying176
 a131:=Try.isAgg176
 z131:=Try.sizeOf176
 v131:=Try.zeroValue176
 t182:=Try.underlying171
 a182:=Try.isAgg171
 z182:=Try.sizeOf171
 v182:=Try.zeroValue171
 t183:=Try.underlying172
 a183:=Try.isAgg172
 z183:=Try.sizeOf172
 v183:=Try.zeroValue172
 t218:=Try.underlying183
 a218:=Try.isAgg183
 z218:=Try.sizeOf183
 v218:=Try.zeroValue183
 t222:=Try.underlying187
 a222:=Try.isAgg187
 z222:=Try.sizeOf187
 v222:=Try.zeroValue187
 t228:=Try.underlying189
 a228:=Try.isAgg189
 z228:=Try.sizeOf189
 v228:=Try.zeroValue189
 t229:=Try.underlying190
 a229:=Try.isAgg190
 z229:=Try.sizeOf190
 v229:=Try.zeroValue190}
open Go.Sort Go.RowKit in
theorem Try.slices_Sort_int(blk off cap:Nat)(zs:List Int)(w:World)(hH:Holds (Value.int .i64) w blk off zs.toArray)(hblk:blk<w.heap.size)(hsz:zs.length<4611686018427387904):
  Calls Try.prog 65 #[.slice (some ⟨blk,off,none⟩) zs.length cap] w fun e w'=>
   e= .returned (.tuple #[])∧ ∃n os,w'=grow (putRow (Value.int .i64) (Sort.ahead w n) blk off (zs.mergeSort fun x y=>decide (x≤y)).toArray) os:=Any.slices_Sort_int Try.lays189 blk off cap zs w hH hblk hsz
open Go.RowKit Go.Sort in
theorem Try.slices_Sort_int_none(p:Option Addr)(cap:Nat)(w:World):
  Calls Try.prog 65 #[.slice p 0 cap] w fun e w'=>e= .returned (.tuple #[])∧w'=w:=Any.slices_Sort_int_none Try.lays189 p cap w
end Go.Proofs
