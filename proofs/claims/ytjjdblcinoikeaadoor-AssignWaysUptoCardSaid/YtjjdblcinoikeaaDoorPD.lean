/- The program's data as Lean structures. Printed by types.py. -/
import Derived.Test.YtjjdblcinoikeaaDoorPL
namespace Go.Proofs.YtjjdblcinoikeaaDoor.PL
open Go
structure Rg where
 id:Int
 cls:Int
 deriving DecidableEq
structure Opd where
 kind:Int
 cls:Int
 n:Int
 tag:Int
 deriving DecidableEq
structure Ins where
 op:Int
 dst:Opd
 args:List Opd
 name:ByteArray
 off:Int
 labels:List ByteArray
 cases:List Int
 deriving DecidableEq
structure Bl where
 label:ByteArray
 edge:Bool
 ins:List Opd
 code:List Ins
 deriving DecidableEq
structure Fnc where
 machine:Bool
 name:ByteArray
 regs:List Rg
 params:List Opd
 blocks:List Bl
 deriving DecidableEq
structure DIns where
 op:Int
 d:Int
 a:Int
 b:Int
 n:Int
 deriving DecidableEq
structure DBl where
 code:List DIns
 term:Int
 a:Int
 b:Int
 v:Int
 deriving DecidableEq
structure Drf where
 g:Int
 x:Int
 params:Int
 blocks:List DBl
 deriving DecidableEq
structure zD where
 n:Int
 words:List Int
 deriving DecidableEq
structure zG where
 f:Fnc
 ids:List Int
 in_:List zD
 deriving DecidableEq
structure zF where
 f:Fnc
 ids:A2 (List Int)
 has:List Int
 deriving DecidableEq
structure zV where
 succ:List (List Int)
 pred:List (List Int)
 deriving DecidableEq
end Go.Proofs.YtjjdblcinoikeaaDoor.PL
