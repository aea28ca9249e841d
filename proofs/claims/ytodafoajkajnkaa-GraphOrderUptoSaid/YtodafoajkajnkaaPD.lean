/- The program's data as Lean structures. Printed by types.py. -/
import Derived.Test.YtodafoajkajnkaaPL
namespace Go.Proofs.Ytodafoajkajnkaa.PL
open Go

structure Rg where
  id : Int
  cls : Int
  deriving DecidableEq
structure Opd where
  kind : Int
  cls : Int
  n : Int
  tag : Int
  deriving DecidableEq
structure Ins where
  op : Int
  dst : Opd
  args : List Opd
  name : ByteArray
  off : Int
  labels : List ByteArray
  cases : List Int
  deriving DecidableEq
structure Bl where
  label : ByteArray
  edge : Bool
  ins : List Opd
  code : List Ins
  deriving DecidableEq
structure Fnc where
  machine : Bool
  name : ByteArray
  regs : List Rg
  params : List Opd
  blocks : List Bl
  deriving DecidableEq
structure DIns where
  op : Int
  d : Int
  a : Int
  b : Int
  n : Int
  deriving DecidableEq
structure DBl where
  code : List DIns
  term : Int
  a : Int
  b : Int
  v : Int
  deriving DecidableEq
structure Drf where
  g : Int
  x : Int
  params : Int
  blocks : List DBl
  deriving DecidableEq
structure Tgt where
  regs : A2 Int
  clobber : A2 (List Int)
  slots : Int
  deriving DecidableEq
structure Lc where
  kind : Int
  cls : Int
  n : Int
  deriving DecidableEq
structure Sg where
  v : Int
  frm : Int
  too : Int
  loc : Lc
  deriving DecidableEq
structure Al where
  slots : Int
  segs : List Sg
  deriving DecidableEq
structure Unt where
  target : Tgt
  func : Fnc
  has : Bool
  alloc : Al
  deriving DecidableEq
structure graph_Graph where
  succ : List (List Int)
  pred : List (List Int)
  deriving DecidableEq
structure bits_Set where
  n : Int
  words : List Int
  deriving DecidableEq
structure dyehouseref12_maker where
  f : Fnc
  ids : A2 (List Int)
  has : List Int
  deriving DecidableEq
structure dom_Tree where
  idom : List Int
  order : List Int
  deriving DecidableEq
end Go.Proofs.Ytodafoajkajnkaa.PL
