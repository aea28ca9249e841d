/-
  No cell of these rows narrows 'for every input' (looked for: loops, veiled, ifaces, maps, wideKeys, modest, calm, conditions, laid).
  DERIVED. THE GIVEN ROWS OF THIS SEAT. 10 by the template 'for every input the law returns true; each argument reads behind the call as it read before'; 0 by the template 'total and deterministic' (their statements: YtodafoajkajnkaaTotals.lean).
  GIVEN WITH THE SEED: the statements are not yours to turn. If you find one false, say at which input.
  Laid BY PROGRAM, IN A SANDBOX (cutbox-rows.mjs): the forced cells as the released guide's own fill.sh prints them over the translation 48fd65ceeae4b9ec… (all of the seat's roots in one cut). By AI agents, Wed Nov 11 2026. No macro, syntax, notation, axiom, sorry.
-/
import Derived.Test.YtodafoajkajnkaaChecked
import GoSem.Claim
import GoSem.ClaimJoined
import GoSem.ClaimMapViews
import Derived.JoinedTies
import Derived.KernelRfl
namespace Go.Proofs.Ytodafoajkajnkaa
/- THE CELL 'sum', in the pinned program and in every row, IS THE sha256 OF THE DUMP (.gsa) THAT YtodafoajkajnkaaProg.lean LOADS. Nothing in Lean hashes anything: it is a label: what it is worth is what the hold of that sum in a sandbox is worth. -/
noncomputable def Try.pinned : Pinned := { name := "ytodafoajkajnkaa", sum := "48fd65ceeae4b9ec6d23436e9208fe6c7ba3565ae73a6c7299419258ebb4f9a4", checked := Try.checked }
namespace Rows
def none {H : Type} : Left H := { results := [], args := [] }

/-- 'dyehouselaw19.GraphTells': WHATEVER THE INPUT: true; the input reads as it did. -/
def graphTellsSpec : ChangeSpec := { name := "graphTells", fn := fun _ => fun
  | [d1, d2] => { results := [.lit (.bool true)], args := [d1, d2] }
  | _ => none }
def graphTellsRow : OpenClaim := { program := "ytodafoajkajnkaa", sum := "48fd65ceeae4b9ec6d23436e9208fe6c7ba3565ae73a6c7299419258ebb4f9a4", func := "dyehouse/dyehouselaw19.GraphTells", spec := "graphTells", unfollowed := true, recurses := true, apart := false }
def GraphTellsSaid : Prop := graphTellsRow.holds Try.pinned (OpenSpec.ofChange graphTellsSpec)

/-- ITS FALSE NEIGHBOUR: 'it returns false'. Refute it at one input. -/
def graphTellsWrong : ChangeSpec := { name := "graphTells", fn := fun _ => fun
  | [d1, d2] => { results := [.lit (.bool false)], args := [d1, d2] }
  | _ => none }
def GraphTellsWrongFalsely : Prop := graphTellsRow.holds Try.pinned (OpenSpec.ofChange graphTellsWrong)

/-- 'dyehouselaw19.GraphAway': WHATEVER THE INPUT: true; the input reads as it did. -/
def graphAwaySpec : ChangeSpec := { name := "graphAway", fn := fun _ => fun
  | [d1, d2, d3] => { results := [.lit (.bool true)], args := [d1, d2, d3] }
  | _ => none }
def graphAwayRow : OpenClaim := { program := "ytodafoajkajnkaa", sum := "48fd65ceeae4b9ec6d23436e9208fe6c7ba3565ae73a6c7299419258ebb4f9a4", func := "dyehouse/dyehouselaw19.GraphAway", spec := "graphAway", unfollowed := true, recurses := true, apart := false }
def GraphAwaySaid : Prop := graphAwayRow.holds Try.pinned (OpenSpec.ofChange graphAwaySpec)

/-- ITS FALSE NEIGHBOUR: 'it returns false'. Refute it at one input. -/
def graphAwayWrong : ChangeSpec := { name := "graphAway", fn := fun _ => fun
  | [d1, d2, d3] => { results := [.lit (.bool false)], args := [d1, d2, d3] }
  | _ => none }
def GraphAwayWrongFalsely : Prop := graphAwayRow.holds Try.pinned (OpenSpec.ofChange graphAwayWrong)

/-- 'dyehouselaw19.GraphOrder': WHATEVER THE INPUT: true; the input reads as it did. -/
def graphOrderSpec : ChangeSpec := { name := "graphOrder", fn := fun _ => fun
  | [d] => { results := [.lit (.bool true)], args := [d] }
  | _ => none }
def graphOrderRow : OpenClaim := { program := "ytodafoajkajnkaa", sum := "48fd65ceeae4b9ec6d23436e9208fe6c7ba3565ae73a6c7299419258ebb4f9a4", func := "dyehouse/dyehouselaw19.GraphOrder", spec := "graphOrder", unfollowed := true, recurses := true, apart := false }
def GraphOrderSaid : Prop := graphOrderRow.holds Try.pinned (OpenSpec.ofChange graphOrderSpec)

/-- ITS FALSE NEIGHBOUR: 'it returns false'. Refute it at one input. -/
def graphOrderWrong : ChangeSpec := { name := "graphOrder", fn := fun _ => fun
  | [d] => { results := [.lit (.bool false)], args := [d] }
  | _ => none }
def GraphOrderWrongFalsely : Prop := graphOrderRow.holds Try.pinned (OpenSpec.ofChange graphOrderWrong)

/-- 'dyehouselaw12.IrCopies': WHATEVER THE INPUT: true; the input reads as it did. -/
def irCopiesSpec : ChangeSpec := { name := "irCopies", fn := fun _ => fun
  | [d1, d2] => { results := [.lit (.bool true)], args := [d1, d2] }
  | _ => none }
def irCopiesRow : OpenClaim := { program := "ytodafoajkajnkaa", sum := "48fd65ceeae4b9ec6d23436e9208fe6c7ba3565ae73a6c7299419258ebb4f9a4", func := "dyehouse/dyehouselaw12.IrCopies", spec := "irCopies", unfollowed := true, recurses := true, apart := false }
def IrCopiesSaid : Prop := irCopiesRow.holds Try.pinned (OpenSpec.ofChange irCopiesSpec)

/-- ITS FALSE NEIGHBOUR: 'it returns false'. Refute it at one input. -/
def irCopiesWrong : ChangeSpec := { name := "irCopies", fn := fun _ => fun
  | [d1, d2] => { results := [.lit (.bool false)], args := [d1, d2] }
  | _ => none }
def IrCopiesWrongFalsely : Prop := irCopiesRow.holds Try.pinned (OpenSpec.ofChange irCopiesWrong)

/-- 'dyehouselaw12.IrWalks': WHATEVER THE INPUT: true; the input reads as it did. -/
def irWalksSpec : ChangeSpec := { name := "irWalks", fn := fun _ => fun
  | [d1, d2] => { results := [.lit (.bool true)], args := [d1, d2] }
  | _ => none }
def irWalksRow : OpenClaim := { program := "ytodafoajkajnkaa", sum := "48fd65ceeae4b9ec6d23436e9208fe6c7ba3565ae73a6c7299419258ebb4f9a4", func := "dyehouse/dyehouselaw12.IrWalks", spec := "irWalks", unfollowed := true, recurses := true, apart := false }
def IrWalksSaid : Prop := irWalksRow.holds Try.pinned (OpenSpec.ofChange irWalksSpec)

/-- ITS FALSE NEIGHBOUR: 'it returns false'. Refute it at one input. -/
def irWalksWrong : ChangeSpec := { name := "irWalks", fn := fun _ => fun
  | [d1, d2] => { results := [.lit (.bool false)], args := [d1, d2] }
  | _ => none }
def IrWalksWrongFalsely : Prop := irWalksRow.holds Try.pinned (OpenSpec.ofChange irWalksWrong)

/-- 'dyehouselaw12.IrAsks': WHATEVER THE INPUT: true; the input reads as it did. -/
def irAsksSpec : ChangeSpec := { name := "irAsks", fn := fun _ => fun
  | [d1, d2, d3] => { results := [.lit (.bool true)], args := [d1, d2, d3] }
  | _ => none }
def irAsksRow : OpenClaim := { program := "ytodafoajkajnkaa", sum := "48fd65ceeae4b9ec6d23436e9208fe6c7ba3565ae73a6c7299419258ebb4f9a4", func := "dyehouse/dyehouselaw12.IrAsks", spec := "irAsks", unfollowed := true, recurses := true, apart := false }
def IrAsksSaid : Prop := irAsksRow.holds Try.pinned (OpenSpec.ofChange irAsksSpec)

/-- ITS FALSE NEIGHBOUR: 'it returns false'. Refute it at one input. -/
def irAsksWrong : ChangeSpec := { name := "irAsks", fn := fun _ => fun
  | [d1, d2, d3] => { results := [.lit (.bool false)], args := [d1, d2, d3] }
  | _ => none }
def IrAsksWrongFalsely : Prop := irAsksRow.holds Try.pinned (OpenSpec.ofChange irAsksWrong)

/-- 'dyehouselaw12.IrSames': WHATEVER THE INPUT: true; the input reads as it did. -/
def irSamesSpec : ChangeSpec := { name := "irSames", fn := fun _ => fun
  | [d1, d2] => { results := [.lit (.bool true)], args := [d1, d2] }
  | _ => none }
def irSamesRow : OpenClaim := { program := "ytodafoajkajnkaa", sum := "48fd65ceeae4b9ec6d23436e9208fe6c7ba3565ae73a6c7299419258ebb4f9a4", func := "dyehouse/dyehouselaw12.IrSames", spec := "irSames", unfollowed := true, recurses := true, apart := false }
def IrSamesSaid : Prop := irSamesRow.holds Try.pinned (OpenSpec.ofChange irSamesSpec)

/-- ITS FALSE NEIGHBOUR: 'it returns false'. Refute it at one input. -/
def irSamesWrong : ChangeSpec := { name := "irSames", fn := fun _ => fun
  | [d1, d2] => { results := [.lit (.bool false)], args := [d1, d2] }
  | _ => none }
def IrSamesWrongFalsely : Prop := irSamesRow.holds Try.pinned (OpenSpec.ofChange irSamesWrong)

/-- 'dyehouselaw21.LoopsTells': WHATEVER THE INPUT: true; the input reads as it did. -/
def loopsTellsSpec : ChangeSpec := { name := "loopsTells", fn := fun _ => fun
  | [d] => { results := [.lit (.bool true)], args := [d] }
  | _ => none }
def loopsTellsRow : OpenClaim := { program := "ytodafoajkajnkaa", sum := "48fd65ceeae4b9ec6d23436e9208fe6c7ba3565ae73a6c7299419258ebb4f9a4", func := "dyehouse/dyehouselaw21.LoopsTells", spec := "loopsTells", unfollowed := true, recurses := true, apart := false }
def LoopsTellsSaid : Prop := loopsTellsRow.holds Try.pinned (OpenSpec.ofChange loopsTellsSpec)

/-- ITS FALSE NEIGHBOUR: 'it returns false'. Refute it at one input. -/
def loopsTellsWrong : ChangeSpec := { name := "loopsTells", fn := fun _ => fun
  | [d] => { results := [.lit (.bool false)], args := [d] }
  | _ => none }
def LoopsTellsWrongFalsely : Prop := loopsTellsRow.holds Try.pinned (OpenSpec.ofChange loopsTellsWrong)

/-- 'dyehouselaw21.LoopsNest': WHATEVER THE INPUT: true; the input reads as it did. -/
def loopsNestSpec : ChangeSpec := { name := "loopsNest", fn := fun _ => fun
  | [d1, d2] => { results := [.lit (.bool true)], args := [d1, d2] }
  | _ => none }
def loopsNestRow : OpenClaim := { program := "ytodafoajkajnkaa", sum := "48fd65ceeae4b9ec6d23436e9208fe6c7ba3565ae73a6c7299419258ebb4f9a4", func := "dyehouse/dyehouselaw21.LoopsNest", spec := "loopsNest", unfollowed := true, recurses := true, apart := false }
def LoopsNestSaid : Prop := loopsNestRow.holds Try.pinned (OpenSpec.ofChange loopsNestSpec)

/-- ITS FALSE NEIGHBOUR: 'it returns false'. Refute it at one input. -/
def loopsNestWrong : ChangeSpec := { name := "loopsNest", fn := fun _ => fun
  | [d1, d2] => { results := [.lit (.bool false)], args := [d1, d2] }
  | _ => none }
def LoopsNestWrongFalsely : Prop := loopsNestRow.holds Try.pinned (OpenSpec.ofChange loopsNestWrong)

/-- 'dyehouselaw21.LoopsHeads': WHATEVER THE INPUT: true; the input reads as it did. -/
def loopsHeadsSpec : ChangeSpec := { name := "loopsHeads", fn := fun _ => fun
  | [d] => { results := [.lit (.bool true)], args := [d] }
  | _ => none }
def loopsHeadsRow : OpenClaim := { program := "ytodafoajkajnkaa", sum := "48fd65ceeae4b9ec6d23436e9208fe6c7ba3565ae73a6c7299419258ebb4f9a4", func := "dyehouse/dyehouselaw21.LoopsHeads", spec := "loopsHeads", unfollowed := true, recurses := true, apart := false }
def LoopsHeadsSaid : Prop := loopsHeadsRow.holds Try.pinned (OpenSpec.ofChange loopsHeadsSpec)

/-- ITS FALSE NEIGHBOUR: 'it returns false'. Refute it at one input. -/
def loopsHeadsWrong : ChangeSpec := { name := "loopsHeads", fn := fun _ => fun
  | [d] => { results := [.lit (.bool false)], args := [d] }
  | _ => none }
def LoopsHeadsWrongFalsely : Prop := loopsHeadsRow.holds Try.pinned (OpenSpec.ofChange loopsHeadsWrong)

/- THE SECOND FORM. 'bulk': how many values and letters a reading holds, each counted each time it is reached (what is shared counts as often as it is met; a slice's spare places count too). A statement '..UptoSaid' is the law's where the arguments, and the package variables that the reading takes, are together of bulk at most 1048576: NARROWER than '..Said'. Prove '..Said' where nothing that the law and all that it calls make is longer than what came in: it says more and counts as full. Else prove '..UptoSaid'. A law counts once. -/
mutual
def uptoBulk {H : Type} : DataW H → Nat
  | .lit (.string bytes) => bytes.length + 1
  | .lit _ => 1
  | .nil => 1
  | .ptr d => uptoBulk d + 1
  | .slice elems spare => uptoBulkAll elems + uptoBulkAll spare + 1
  | .agg parts => uptoBulkAll parts + 1
  | .iface _ d => uptoBulk d + 1
  | .map entries => uptoBulkEntries entries + 1
  | .held _ => 1
def uptoBulkAll {H : Type} : List (DataW H) → Nat
  | [] => 0
  | d :: r => uptoBulk d + uptoBulkAll r
def uptoBulkEntries {H : Type} : List (Lit × DataW H) → Nat
  | [] => 0
  | x :: r => uptoBulkEntry x + uptoBulkEntries r
def uptoBulkEntry {H : Type} : Lit × DataW H → Nat
  | (.string bytes, d) => bytes.length + uptoBulk d + 1
  | (_, d) => uptoBulk d + 1
 end
def uptoSmall : (H : Type) → List (DataW H) → Bool := fun _ ds => decide (uptoBulkAll ds ≤ 1048576)
def OpenSpec.upto (s : _root_.Go.ChangeSpec) : _root_.Go.OpenSpec := { _root_.Go.OpenSpec.ofChange s with cond := some uptoSmall }

/-- 'dyehouselaw19.GraphTells', WHERE WHAT IT READS IS OF BULK AT MOST 1048576: true; the input reads as it did. -/
def graphTellsUptoRow : OpenClaim := { program := "ytodafoajkajnkaa", sum := "48fd65ceeae4b9ec6d23436e9208fe6c7ba3565ae73a6c7299419258ebb4f9a4", func := "dyehouse/dyehouselaw19.GraphTells", spec := "graphTells", unfollowed := true, recurses := true, apart := false, narrowed := true }
def GraphTellsUptoSaid : Prop := graphTellsUptoRow.holds Try.pinned (OpenSpec.upto graphTellsSpec)

/-- 'dyehouselaw19.GraphAway', WHERE WHAT IT READS IS OF BULK AT MOST 1048576: true; the input reads as it did. -/
def graphAwayUptoRow : OpenClaim := { program := "ytodafoajkajnkaa", sum := "48fd65ceeae4b9ec6d23436e9208fe6c7ba3565ae73a6c7299419258ebb4f9a4", func := "dyehouse/dyehouselaw19.GraphAway", spec := "graphAway", unfollowed := true, recurses := true, apart := false, narrowed := true }
def GraphAwayUptoSaid : Prop := graphAwayUptoRow.holds Try.pinned (OpenSpec.upto graphAwaySpec)

/-- 'dyehouselaw19.GraphOrder', WHERE WHAT IT READS IS OF BULK AT MOST 1048576: true; the input reads as it did. -/
def graphOrderUptoRow : OpenClaim := { program := "ytodafoajkajnkaa", sum := "48fd65ceeae4b9ec6d23436e9208fe6c7ba3565ae73a6c7299419258ebb4f9a4", func := "dyehouse/dyehouselaw19.GraphOrder", spec := "graphOrder", unfollowed := true, recurses := true, apart := false, narrowed := true }
def GraphOrderUptoSaid : Prop := graphOrderUptoRow.holds Try.pinned (OpenSpec.upto graphOrderSpec)

/-- 'dyehouselaw12.IrCopies', WHERE WHAT IT READS IS OF BULK AT MOST 1048576: true; the input reads as it did. -/
def irCopiesUptoRow : OpenClaim := { program := "ytodafoajkajnkaa", sum := "48fd65ceeae4b9ec6d23436e9208fe6c7ba3565ae73a6c7299419258ebb4f9a4", func := "dyehouse/dyehouselaw12.IrCopies", spec := "irCopies", unfollowed := true, recurses := true, apart := false, narrowed := true }
def IrCopiesUptoSaid : Prop := irCopiesUptoRow.holds Try.pinned (OpenSpec.upto irCopiesSpec)

/-- 'dyehouselaw12.IrWalks', WHERE WHAT IT READS IS OF BULK AT MOST 1048576: true; the input reads as it did. -/
def irWalksUptoRow : OpenClaim := { program := "ytodafoajkajnkaa", sum := "48fd65ceeae4b9ec6d23436e9208fe6c7ba3565ae73a6c7299419258ebb4f9a4", func := "dyehouse/dyehouselaw12.IrWalks", spec := "irWalks", unfollowed := true, recurses := true, apart := false, narrowed := true }
def IrWalksUptoSaid : Prop := irWalksUptoRow.holds Try.pinned (OpenSpec.upto irWalksSpec)

/-- 'dyehouselaw12.IrAsks', WHERE WHAT IT READS IS OF BULK AT MOST 1048576: true; the input reads as it did. -/
def irAsksUptoRow : OpenClaim := { program := "ytodafoajkajnkaa", sum := "48fd65ceeae4b9ec6d23436e9208fe6c7ba3565ae73a6c7299419258ebb4f9a4", func := "dyehouse/dyehouselaw12.IrAsks", spec := "irAsks", unfollowed := true, recurses := true, apart := false, narrowed := true }
def IrAsksUptoSaid : Prop := irAsksUptoRow.holds Try.pinned (OpenSpec.upto irAsksSpec)

/-- 'dyehouselaw12.IrSames', WHERE WHAT IT READS IS OF BULK AT MOST 1048576: true; the input reads as it did. -/
def irSamesUptoRow : OpenClaim := { program := "ytodafoajkajnkaa", sum := "48fd65ceeae4b9ec6d23436e9208fe6c7ba3565ae73a6c7299419258ebb4f9a4", func := "dyehouse/dyehouselaw12.IrSames", spec := "irSames", unfollowed := true, recurses := true, apart := false, narrowed := true }
def IrSamesUptoSaid : Prop := irSamesUptoRow.holds Try.pinned (OpenSpec.upto irSamesSpec)

/-- 'dyehouselaw21.LoopsTells', WHERE WHAT IT READS IS OF BULK AT MOST 1048576: true; the input reads as it did. -/
def loopsTellsUptoRow : OpenClaim := { program := "ytodafoajkajnkaa", sum := "48fd65ceeae4b9ec6d23436e9208fe6c7ba3565ae73a6c7299419258ebb4f9a4", func := "dyehouse/dyehouselaw21.LoopsTells", spec := "loopsTells", unfollowed := true, recurses := true, apart := false, narrowed := true }
def LoopsTellsUptoSaid : Prop := loopsTellsUptoRow.holds Try.pinned (OpenSpec.upto loopsTellsSpec)

/-- 'dyehouselaw21.LoopsNest', WHERE WHAT IT READS IS OF BULK AT MOST 1048576: true; the input reads as it did. -/
def loopsNestUptoRow : OpenClaim := { program := "ytodafoajkajnkaa", sum := "48fd65ceeae4b9ec6d23436e9208fe6c7ba3565ae73a6c7299419258ebb4f9a4", func := "dyehouse/dyehouselaw21.LoopsNest", spec := "loopsNest", unfollowed := true, recurses := true, apart := false, narrowed := true }
def LoopsNestUptoSaid : Prop := loopsNestUptoRow.holds Try.pinned (OpenSpec.upto loopsNestSpec)

/-- 'dyehouselaw21.LoopsHeads', WHERE WHAT IT READS IS OF BULK AT MOST 1048576: true; the input reads as it did. -/
def loopsHeadsUptoRow : OpenClaim := { program := "ytodafoajkajnkaa", sum := "48fd65ceeae4b9ec6d23436e9208fe6c7ba3565ae73a6c7299419258ebb4f9a4", func := "dyehouse/dyehouselaw21.LoopsHeads", spec := "loopsHeads", unfollowed := true, recurses := true, apart := false, narrowed := true }
def LoopsHeadsUptoSaid : Prop := loopsHeadsUptoRow.holds Try.pinned (OpenSpec.upto loopsHeadsSpec)

end Rows
end Go.Proofs.Ytodafoajkajnkaa
