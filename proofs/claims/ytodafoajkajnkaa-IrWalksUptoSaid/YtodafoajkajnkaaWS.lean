/- The contract of the law IrWalks: its code computes the pure law, and that is true. -/
import Derived.Test.YtodafoajkajnkaaWalkX
import Derived.Test.YtodafoajkajnkaaIB
import Derived.Test.YtodafoajkajnkaaPI2
set_option linter.unusedVariables false
namespace Go.Proofs.Ytodafoajkajnkaa.IL
open Go Go.RowKit PL
theorem IrWalks_spec (f : Fnc) (w : wFnc f) (h : bkL (eFnc f) ≤ 1048576) (t : Int) (wt : (Lit.int .i64 t).wf = true) :
    CallW Try.prog 7 [.agg (eFnc f), .int .i64 t] (.nil fun _ => 0) fun v _ => v = .bool true :=
  (PCall.at (w_dyehouselaw12_IrWalks (walks_law (fIr_bulk h) (opsL_bulk h) t)) _).mono fun v H' h => h.1
end Go.Proofs.Ytodafoajkajnkaa.IL
