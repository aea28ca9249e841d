/- The contract of the law LoopsNest: its code computes the pure law, and that is true. -/
import Derived.Test.YtoojnagdenoknaaUnX
import Derived.Test.YtoojnagdenoknaaHC
import Derived.Test.YtoojnagdenoknaaVL
set_option linter.unusedSimpArgs false
set_option linter.unusedSectionVars false
set_option linter.unnecessarySimpa false
set_option linter.unusedVariables false
namespace Go.Proofs.Ytoojnagdenoknaa.IL
open Go Go.RowKit PL
theorem LoopsNest_spec(f:Fnc)(w:wFnc f)(h:bkL (eFnc f)≤1048576)(i:Int)(wi:(Lit.int .i64 i).wf=true):CallW Try.prog 4 [.agg (eFnc f),.int .i64 i] (.nil fun _=>0) fun v _=>v= .bool true:=
 (PCall.at (wz4c (law_LoopsNest (fOk_bulk h) i)) _).mono fun v H' h=>h.1
end Go.Proofs.Ytoojnagdenoknaa.IL
