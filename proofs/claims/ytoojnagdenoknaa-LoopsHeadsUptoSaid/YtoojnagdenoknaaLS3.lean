/- The contract of the law LoopsHeads: its code computes the pure law, and that is true. -/
import Derived.Test.YtoojnagdenoknaaUnX
import Derived.Test.YtoojnagdenoknaaRD
import Derived.Test.YtoojnagdenoknaaVL
set_option linter.unusedSimpArgs false
set_option linter.unusedSectionVars false
set_option linter.unnecessarySimpa false
set_option linter.unusedVariables false
namespace Go.Proofs.Ytoojnagdenoknaa.IL
open Go Go.RowKit PL
theorem LoopsHeads_spec(d:Drf)(w:wDrf d)(h:bkL (eDrf d)≤1048576):CallW Try.prog 5 [.agg (eDrf d)] (.nil fun _=>0) fun v _=>v= .bool true:=
 (PCall.at (wz5d (law_LoopsHeads (rD_wf w) (drf_bulk h))) _).mono fun v H' h=>h.1
end Go.Proofs.Ytoojnagdenoknaa.IL
