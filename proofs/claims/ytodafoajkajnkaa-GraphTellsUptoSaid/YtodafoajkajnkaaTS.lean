/- The contract of the law GraphTells: its code computes the pure law, and that is true. -/
import Derived.Test.YtodafoajkajnkaaAS
import Derived.Test.YtodafoajkajnkaaPT3
set_option linter.unusedVariables false
namespace Go.Proofs.Ytodafoajkajnkaa.IL
open Go Go.RowKit PL
theorem GraphTells_spec (f : Fnc) (w : wFnc f) (h : bkL (eFnc f) ≤ 1048576) (t : Int) (wt : (Lit.int .i64 t).wf = true) :
    CallW Try.prog 3 [.agg (eFnc f), .int .i64 t] (.nil fun _ => 0) fun v _ => v = .bool true :=
  (PCall.at (w_dyehouselaw19_GraphTells (tells_law (fOk_bulk h) t)) _).mono fun v H' h => h.1
end Go.Proofs.Ytodafoajkajnkaa.IL
