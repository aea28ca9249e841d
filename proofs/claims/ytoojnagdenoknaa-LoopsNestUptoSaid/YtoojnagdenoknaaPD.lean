/- The program's data as Lean structures. Printed by types.py. -/
import Derived.Test.YtoojnagdenoknaaPL
set_option linter.unusedVariables false
set_option linter.unusedSimpArgs false
set_option linter.unusedSectionVars false
set_option linter.unnecessarySimpa false
namespace Go.Proofs.Ytoojnagdenoknaa.PL
open Go
structure Rg where
 id:Int
 cls:Int
 deriving DecidableEq
structure Opd where
 kind:Int
 cls:Int
 n:Int
 tag:Int
 deriving DecidableEq
structure Ins where
 op:Int
 dst:Opd
 args:List Opd
 name:ByteArray
 off:Int
 labels:List ByteArray
 cases:List Int
 deriving DecidableEq
structure Bl where
 label:ByteArray
 edge:Bool
 ins:List Opd
 code:List Ins
 deriving DecidableEq
structure Fnc where
 machine:Bool
 name:ByteArray
 regs:List Rg
 params:List Opd
 blocks:List Bl
 deriving DecidableEq
structure zC where
 n:Int
 words:List Int
 deriving DecidableEq
structure zM where
 n:Int
 body:List (Int×zC)
 deriving DecidableEq
structure zI where
 succ:List (List Int)
 pred:List (List Int)
 deriving DecidableEq
structure dom_Tree where
 idom:List Int
 order:List Int
 deriving DecidableEq
end Go.Proofs.Ytoojnagdenoknaa.PL
