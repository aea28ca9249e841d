/- The program's data as Lean structures. Printed by types.py. -/
import Derived.Test.YtmogcnnhbmaffaaGreatPL
namespace Go.Proofs.YtmogcnnhbmaffaaGreat.PL
open Go
structure Rg where
 id:Int
 cls:Int
 deriving DecidableEq
structure Opd where
 kind:Int
 cls:Int
 n:Int
 tag:Int
 deriving DecidableEq
structure Ins where
 op:Int
 dst:Opd
 args:List Opd
 name:ByteArray
 off:Int
 labels:List ByteArray
 cases:List Int
 deriving DecidableEq
structure Bl where
 label:ByteArray
 edge:Bool
 ins:List Opd
 code:List Ins
 deriving DecidableEq
structure Fnc where
 machine:Bool
 name:ByteArray
 regs:List Rg
 params:List Opd
 blocks:List Bl
 deriving DecidableEq
structure zW where
 f:Fnc
 deriving DecidableEq
structure zn where
 look:Nat
 deriving DecidableEq
structure zd where
 code:Int
 block:Int
 i:Int
 deriving DecidableEq
structure zI where
 name:ByteArray
 dst:ByteArray
 args:List ByteArray
 labels:Int
 alone:Bool
 deriving DecidableEq
structure zq where
 succ:List (List Int)
 pred:List (List Int)
 deriving DecidableEq
structure zJ where
 n:Int
 words:List Int
 deriving DecidableEq
structure zL where
 f:Fnc
 ids:List Int
 in_:List zJ
 deriving DecidableEq
structure yN where
 name:ByteArray
 dst:Int
 args:A2 Int
 labels:Int
 machine:Bool
 deriving DecidableEq
end Go.Proofs.YtmogcnnhbmaffaaGreat.PL
