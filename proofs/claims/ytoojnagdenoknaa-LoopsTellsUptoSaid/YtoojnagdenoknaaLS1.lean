/- The contract of the law LoopsTells: its code computes the pure law, and that is true. -/
import Derived.Test.YtoojnagdenoknaaLtX
import Derived.Test.YtoojnagdenoknaaHC
import Derived.Test.YtoojnagdenoknaaVL
set_option linter.unusedSimpArgs false
set_option linter.unusedSectionVars false
set_option linter.unnecessarySimpa false
set_option linter.unusedVariables false
namespace Go.Proofs.Ytoojnagdenoknaa.IL
open Go Go.RowKit PL
theorem LoopsTells_spec(f:Fnc)(w:wFnc f)(h:bkL (eFnc f)≤1048576):CallW Try.prog 3 [.agg (eFnc f)] (.nil fun _=>0) fun v _=>v= .bool true:=
 (PCall.at (wz4z (law_LoopsTells (fOk_bulk h))) _).mono fun v H' h=>h.1
end Go.Proofs.Ytoojnagdenoknaa.IL
