/-
 DERIVED:THE SHELF's CONTRACTS AT THIS DUMP,IN PLAIN WORDS (tools/lay-plain.mjs out of 'TrydSortS.lean',which tools/lay-shelf.mjs wrote):THE SAME DECLARATIONS UNDER THE SAME NAMES:'import','namespace','open','def','theorem' AND NOTHING ELSE:no command of the shelf's:FOR A HAND-IN. Each laying:the table of numbers ('.._ren') and one theorem,a field a fact of the dump's own or the kernel's comparison;each contract:ONE APPLICATION.
-/
import Derived.Shelf.Sort.Plain
import Derived.Shelf.Slices.CompactI
import Derived.Shelf.Slices.In.SortNone
import Derived.Test.YtjjdblcinoikeaaDoorProg
namespace Go.Proofs
open Go.Shelf
def Tryd.lays189_ren:Go.Shelf.Ren:=⟨fun|189=>21|125=>45|257=>44|128=>73|129=>74|294=>64|295=>65|296=>66|297=>67|298=>68|299=>69|216=>70|300=>71|301=>72|328=>85|329=>86|330=>87|331=>88|332=>89|215=>90|343=>93|n=>n,fun|28=>35|3=>3|46=>99|0=>0|51=>132|53=>103|4=>4|183=>125|182=>124|131=>104|5=>5|9=>9|218=>143|222=>147|228=>149|229=>150|n=>n,fun|n=>n⟩
theorem Tryd.lays189:Go.Proofs.Lays.n189 Tryd.prog Tryd.lays189_ren:={
 mixed:=by kernel_rfl
 f125:=Tryd.func45.trans (congrArg some (by kernel_rfl))
 f128:=Tryd.func73.trans (congrArg some (by kernel_rfl))
 f129:=Tryd.func74.trans (congrArg some (by kernel_rfl))
 f189:=Tryd.func21.trans (congrArg some (by kernel_rfl))
 f215:=Tryd.func90.trans (congrArg some (by kernel_rfl))
 f216:=Tryd.func70.trans (congrArg some (by kernel_rfl))
 f257:=Tryd.func44.trans (congrArg some (by kernel_rfl))
 f294:=Tryd.func64.trans (congrArg some (by kernel_rfl))
 f295:=Tryd.func65.trans (congrArg some (by kernel_rfl))
 f296:=Tryd.func66.trans (congrArg some (by kernel_rfl))
 f297:=Tryd.func67.trans (congrArg some (by kernel_rfl))
 f298:=Tryd.func68.trans (congrArg some (by kernel_rfl))
 f299:=Tryd.func69.trans (congrArg some (by kernel_rfl))
 f300:=Tryd.func71.trans (congrArg some (by kernel_rfl))
 f301:=Tryd.func72.trans (congrArg some (by kernel_rfl))
 f328:=Tryd.func85.trans (congrArg some (by kernel_rfl))
 f329:=Tryd.func86.trans (congrArg some (by kernel_rfl))
 f330:=Tryd.func87.trans (congrArg some (by kernel_rfl))
 f331:=Tryd.func88.trans (congrArg some (by kernel_rfl))
 f332:=Tryd.func89.trans (congrArg some (by kernel_rfl))
 f343:=Tryd.func93.trans (congrArg some (by kernel_rfl))
 t0:=Tryd.underlying0
 a0:=Tryd.isAgg0
 z0:=Tryd.sizeOf0
 v0:=Tryd.zeroValue0
 t3:=Tryd.underlying3
 a3:=Tryd.isAgg3
 z3:=Tryd.sizeOf3
 v3:=Tryd.zeroValue3
 t4:=Tryd.underlying4
 a4:=Tryd.isAgg4
 z4:=Tryd.sizeOf4
 v4:=Tryd.zeroValue4
 t5:=Tryd.underlying5
 a5:=Tryd.isAgg5
 z5:=Tryd.sizeOf5
 v5:=Tryd.zeroValue5
 t9:=Tryd.underlying9
 a9:=Tryd.isAgg9
 z9:=Tryd.sizeOf9
 v9:=Tryd.zeroValue9
 t28:=Tryd.underlying35
 a28:=Tryd.isAgg35
 z28:=Tryd.sizeOf35
 v28:=Tryd.zeroValue35
 t46:=Tryd.underlying99
 a46:=Tryd.isAgg99
 z46:=Tryd.sizeOf99
 v46:=Tryd.zeroValue99
 t51:=Tryd.underlying132
 a51:=Tryd.isAgg132
 z51:=Tryd.sizeOf132
 v51:=Tryd.zeroValue132
 t53:=Tryd.underlying103
 a53:=Tryd.isAgg103
 z53:=Tryd.sizeOf103
 v53:=Tryd.zeroValue103
 t131:=Tryd.underlying104
 a131:=Tryd.isAgg104
 z131:=Tryd.sizeOf104
 v131:=Tryd.zeroValue104
 t182:=Tryd.underlying124
 a182:=Tryd.isAgg124
 z182:=Tryd.sizeOf124
 v182:=Tryd.zeroValue124
 t183:=Tryd.underlying125
 a183:=Tryd.isAgg125
 z183:=Tryd.sizeOf125
 v183:=Tryd.zeroValue125
 t218:=Tryd.underlying143
 a218:=Tryd.isAgg143
 z218:=Tryd.sizeOf143
 v218:=Tryd.zeroValue143
 t222:=Tryd.underlying147
 a222:=Tryd.isAgg147
 z222:=Tryd.sizeOf147
 v222:=Tryd.zeroValue147
 t228:=Tryd.underlying149
 a228:=Tryd.isAgg149
 z228:=Tryd.sizeOf149
 v228:=Tryd.zeroValue149
 t229:=Tryd.underlying150
 a229:=Tryd.isAgg150
 z229:=Tryd.sizeOf150
 v229:=Tryd.zeroValue150}
open Go.Sort Go.RowKit in
theorem Tryd.slices_Sort_int(blk off cap:Nat)(zs:List Int)(w:World)(hH:Holds (Value.int .i64) w blk off zs.toArray)(hblk:blk<w.heap.size)(hsz:zs.length<4611686018427387904):
  Calls Tryd.prog 21 #[.slice (some ⟨blk,off,none⟩) zs.length cap] w fun e w'=>
   e= .returned (.tuple #[])∧ ∃n os,w'=grow (putRow (Value.int .i64) (Sort.ahead w n) blk off (zs.mergeSort fun x y=>decide (x≤y)).toArray) os:=Any.slices_Sort_int Tryd.lays189 blk off cap zs w hH hblk hsz
def Tryd.laysNm220_ren:Go.Shelf.Ren:=⟨fun|20=>22|n=>n,fun|22=>35|3=>3|4=>4|0=>0|n=>n,fun|n=>n⟩
theorem Tryd.laysNm220:Go.Proofs.Lays2.n20 Tryd.prog Tryd.laysNm220_ren:={
 mixed:=by kernel_rfl
 f20:=Tryd.func22.trans (congrArg some (by kernel_rfl))
 t0:=Tryd.underlying0
 a0:=Tryd.isAgg0
 z0:=Tryd.sizeOf0
 v0:=Tryd.zeroValue0
 t3:=Tryd.underlying3
 a3:=Tryd.isAgg3
 z3:=Tryd.sizeOf3
 v3:=Tryd.zeroValue3
 t4:=Tryd.underlying4
 a4:=Tryd.isAgg4
 z4:=Tryd.sizeOf4
 v4:=Tryd.zeroValue4
 t22:=Tryd.underlying35
 a22:=Tryd.isAgg35
 z22:=Tryd.sizeOf35
 v22:=Tryd.zeroValue35
 i3:=by kernel_rfl}
open Go.RowKit Go.Lib Go.Sort in
theorem Tryd.slices_Compact_int(blk off cap:Nat)(zs:List Int)(w:World)(hH:Holds (Value.int .i64) w blk off zs.toArray)(hsz:zs.length≤9223372036854775807)(hcap:zs.length≤cap):
  Calls Tryd.prog 22 #[.slice (some ⟨blk,off,none⟩) zs.length cap] w fun e w'=>e= .returned (.slice (some ⟨blk,off,none⟩) (Lib.compact zs).length cap)∧ ∃q,w'=putRow (Value.int .i64) (Sort.ahead w q) blk off (Lib.compact zs++List.replicate (zs.length-(Lib.compact zs).length) 0).toArray:=Any.slices_Compact_int Tryd.laysNm220 blk off cap zs w hH hsz hcap
open Go.RowKit Go.Lib Go.Sort in
theorem Tryd.slices_Compact_int_empty(a:Option Addr)(cap:Nat)(w:World):
  Calls Tryd.prog 22 #[.slice a 0 cap] w fun e w'=>e= .returned (.slice a 0 cap)∧w'=w:=Any.slices_Compact_int_empty Tryd.laysNm220 a cap w
open Go.RowKit Go.Sort in
theorem Tryd.slices_Sort_int_none(p:Option Addr)(cap:Nat)(w:World):
  Calls Tryd.prog 21 #[.slice p 0 cap] w fun e w'=>e= .returned (.tuple #[])∧w'=w:=Any.slices_Sort_int_none Tryd.lays189 p cap w
end Go.Proofs
