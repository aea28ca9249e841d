/- The contract of the law VerifyChecks: its code computes the pure law, and that is true. -/
import Derived.Test.YtmogcnnhbmaffaaGreatUniX
import Derived.Test.YtmogcnnhbmaffaaGreatHB
import Derived.Test.YtmogcnnhbmaffaaGreatVL
set_option linter.unusedVariables false
namespace Go.Proofs.YtmogcnnhbmaffaaGreat.IL
open Go Go.RowKit PL
theorem VerifyChecks_spec(f:Fnc)(w:wFnc f)(h:bkL (eFnc f)≤1048576):CallW Tryz.prog 3 [.agg (eFnc f)] (.nil fun _=>0) fun v _=>v= .bool true:=
 (PCall.at (wz90 (law_VerifyChecks (fBk_bulk h))) _).mono fun v H' h=>h.1
end Go.Proofs.YtmogcnnhbmaffaaGreat.IL
