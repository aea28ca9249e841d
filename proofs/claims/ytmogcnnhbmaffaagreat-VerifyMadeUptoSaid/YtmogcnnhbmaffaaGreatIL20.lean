/- The ideal logic, part 20: a loop over a function. Nothing here speaks of a given program. -/
import Derived.Test.YtmogcnnhbmaffaaGreatIL19
import Derived.RangeFuncNested
set_option linter.unusedVariables false
set_option linter.unusedSimpArgs false
namespace Go.Proofs.YtmogcnnhbmaffaaGreat.IL
open Go Go.RowKit
@[simp] theorem setl_get (H:Heap) (id:Id) (s:LS) (j:Id):(H.setl id s).get j=H.get j:=rfl
@[simp] theorem setl_loop (H:Heap) (id:Id) (s:LS) (j:Id):(H.setl id s).loop j=if j=id then some s else H.loop j:=rfl
@[simp] theorem put_loop (H:Heap) (id:Id) (b:Blk):(H.put id b).loop=H.loop:=rfl
@[simp] theorem del_loop (H:Heap) (id:Id):(H.del id).loop=H.loop:=rfl
@[simp] theorem new_loop (H:Heap) (k:Nat) (b:Blk):(H.new k b).loop=H.loop:=rfl
end Go.Proofs.YtmogcnnhbmaffaaGreat.IL
