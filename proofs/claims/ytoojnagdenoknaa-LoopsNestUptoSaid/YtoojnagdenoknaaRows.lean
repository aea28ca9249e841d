/-
  No cell of these rows narrows 'for every input' (looked for: loops, veiled, ifaces, maps, wideKeys, modest, calm, conditions, laid).
  DERIVED. THE GIVEN ROWS OF THIS SEAT. 4 by the template 'for every input the law returns true; each argument reads behind the call as it read before'; 0 by the template 'total and deterministic' (their statements: YtoojnagdenoknaaTotals.lean).
  GIVEN WITH THE SEED: the statements are not yours to turn. If you find one false, say at which input.
  Laid BY PROGRAM, IN A SANDBOX (cutbox-rows.mjs): the forced cells as the released guide's own fill.sh prints them over the translation 13b50b0f27c177e4… (all of the seat's roots in one cut). By AI agents, Wed Nov 11 2026. No macro, syntax, notation, axiom, sorry.
-/
import Derived.Test.YtoojnagdenoknaaChecked
import GoSem.Claim
import GoSem.ClaimJoined
import GoSem.ClaimMapViews
import Derived.JoinedTies
import Derived.KernelRfl
namespace Go.Proofs.Ytoojnagdenoknaa
/- THE CELL 'sum', in the pinned program and in every row, IS THE sha256 OF THE DUMP (.gsa) THAT YtoojnagdenoknaaProg.lean LOADS. Nothing in Lean hashes anything: it is a label: what it is worth is what the hold of that sum in a sandbox is worth. -/
noncomputable def Try.pinned : Pinned := { name := "ytoojnagdenoknaa", sum := "13b50b0f27c177e4d5d3a3e249890c8e8bbb1f0031f24c66b0442658c1e862f1", checked := Try.checked }
namespace Rows
def none {H : Type} : Left H := { results := [], args := [] }

/-- 'dyehouselaw21.LoopsTells': WHATEVER THE INPUT: true; the input reads as it did. -/
def loopsTellsSpec : ChangeSpec := { name := "loopsTells", fn := fun _ => fun
  | [d] => { results := [.lit (.bool true)], args := [d] }
  | _ => none }
def loopsTellsRow : OpenClaim := { program := "ytoojnagdenoknaa", sum := "13b50b0f27c177e4d5d3a3e249890c8e8bbb1f0031f24c66b0442658c1e862f1", func := "dyehouse/dyehouselaw21.LoopsTells", spec := "loopsTells", unfollowed := true, recurses := true, apart := false }
def LoopsTellsSaid : Prop := loopsTellsRow.holds Try.pinned (OpenSpec.ofChange loopsTellsSpec)

/-- ITS FALSE NEIGHBOUR: 'it returns false'. Refute it at one input. -/
def loopsTellsWrong : ChangeSpec := { name := "loopsTells", fn := fun _ => fun
  | [d] => { results := [.lit (.bool false)], args := [d] }
  | _ => none }
def LoopsTellsWrongFalsely : Prop := loopsTellsRow.holds Try.pinned (OpenSpec.ofChange loopsTellsWrong)

/-- 'dyehouselaw21.LoopsNest': WHATEVER THE INPUT: true; the input reads as it did. -/
def loopsNestSpec : ChangeSpec := { name := "loopsNest", fn := fun _ => fun
  | [d1, d2] => { results := [.lit (.bool true)], args := [d1, d2] }
  | _ => none }
def loopsNestRow : OpenClaim := { program := "ytoojnagdenoknaa", sum := "13b50b0f27c177e4d5d3a3e249890c8e8bbb1f0031f24c66b0442658c1e862f1", func := "dyehouse/dyehouselaw21.LoopsNest", spec := "loopsNest", unfollowed := true, recurses := true, apart := false }
def LoopsNestSaid : Prop := loopsNestRow.holds Try.pinned (OpenSpec.ofChange loopsNestSpec)

/-- ITS FALSE NEIGHBOUR: 'it returns false'. Refute it at one input. -/
def loopsNestWrong : ChangeSpec := { name := "loopsNest", fn := fun _ => fun
  | [d1, d2] => { results := [.lit (.bool false)], args := [d1, d2] }
  | _ => none }
def LoopsNestWrongFalsely : Prop := loopsNestRow.holds Try.pinned (OpenSpec.ofChange loopsNestWrong)

/-- 'dyehouselaw21.LoopsHeads': WHATEVER THE INPUT: true; the input reads as it did. -/
def loopsHeadsSpec : ChangeSpec := { name := "loopsHeads", fn := fun _ => fun
  | [d] => { results := [.lit (.bool true)], args := [d] }
  | _ => none }
def loopsHeadsRow : OpenClaim := { program := "ytoojnagdenoknaa", sum := "13b50b0f27c177e4d5d3a3e249890c8e8bbb1f0031f24c66b0442658c1e862f1", func := "dyehouse/dyehouselaw21.LoopsHeads", spec := "loopsHeads", unfollowed := true, recurses := true, apart := false }
def LoopsHeadsSaid : Prop := loopsHeadsRow.holds Try.pinned (OpenSpec.ofChange loopsHeadsSpec)

/-- ITS FALSE NEIGHBOUR: 'it returns false'. Refute it at one input. -/
def loopsHeadsWrong : ChangeSpec := { name := "loopsHeads", fn := fun _ => fun
  | [d] => { results := [.lit (.bool false)], args := [d] }
  | _ => none }
def LoopsHeadsWrongFalsely : Prop := loopsHeadsRow.holds Try.pinned (OpenSpec.ofChange loopsHeadsWrong)

/-- 'dyehouselaw45.ReportBoth': WHATEVER THE INPUT: true; the input reads as it did. -/
def reportBothSpec : ChangeSpec := { name := "reportBoth", fn := fun _ => fun
  | [d1, d2, d3] => { results := [.lit (.bool true)], args := [d1, d2, d3] }
  | _ => none }
def reportBothRow : OpenClaim := { program := "ytoojnagdenoknaa", sum := "13b50b0f27c177e4d5d3a3e249890c8e8bbb1f0031f24c66b0442658c1e862f1", func := "dyehouse/dyehouselaw45.ReportBoth", spec := "reportBoth", inPlace := ["internal/abi.NoEscape"], unfollowed := true, recurses := true, apart := false }
def ReportBothSaid : Prop := reportBothRow.holds Try.pinned (OpenSpec.ofChange reportBothSpec)

/-- ITS FALSE NEIGHBOUR: 'it returns false'. Refute it at one input. -/
def reportBothWrong : ChangeSpec := { name := "reportBoth", fn := fun _ => fun
  | [d1, d2, d3] => { results := [.lit (.bool false)], args := [d1, d2, d3] }
  | _ => none }
def ReportBothWrongFalsely : Prop := reportBothRow.holds Try.pinned (OpenSpec.ofChange reportBothWrong)

/- THE SECOND FORM. 'bulk': how many values and letters a reading holds, each counted each time it is reached (what is shared counts as often as it is met; a slice's spare places count too). A statement '..UptoSaid' is the law's where the arguments, and the package variables that the reading takes, are together of bulk at most 1048576: NARROWER than '..Said'. Prove '..Said' where nothing that the law and all that it calls make is longer than what came in: it says more and counts as full. Else prove '..UptoSaid'. A law counts once. -/
mutual
def uptoBulk {H : Type} : DataW H → Nat
  | .lit (.string bytes) => bytes.length + 1
  | .lit _ => 1
  | .nil => 1
  | .ptr d => uptoBulk d + 1
  | .slice elems spare => uptoBulkAll elems + uptoBulkAll spare + 1
  | .agg parts => uptoBulkAll parts + 1
  | .iface _ d => uptoBulk d + 1
  | .map entries => uptoBulkEntries entries + 1
  | .held _ => 1
def uptoBulkAll {H : Type} : List (DataW H) → Nat
  | [] => 0
  | d :: r => uptoBulk d + uptoBulkAll r
def uptoBulkEntries {H : Type} : List (Lit × DataW H) → Nat
  | [] => 0
  | x :: r => uptoBulkEntry x + uptoBulkEntries r
def uptoBulkEntry {H : Type} : Lit × DataW H → Nat
  | (.string bytes, d) => bytes.length + uptoBulk d + 1
  | (_, d) => uptoBulk d + 1
 end
def uptoSmall : (H : Type) → List (DataW H) → Bool := fun _ ds => decide (uptoBulkAll ds ≤ 1048576)
def OpenSpec.upto (s : _root_.Go.ChangeSpec) : _root_.Go.OpenSpec := { _root_.Go.OpenSpec.ofChange s with cond := some uptoSmall }

/-- 'dyehouselaw21.LoopsTells', WHERE WHAT IT READS IS OF BULK AT MOST 1048576: true; the input reads as it did. -/
def loopsTellsUptoRow : OpenClaim := { program := "ytoojnagdenoknaa", sum := "13b50b0f27c177e4d5d3a3e249890c8e8bbb1f0031f24c66b0442658c1e862f1", func := "dyehouse/dyehouselaw21.LoopsTells", spec := "loopsTells", unfollowed := true, recurses := true, apart := false, narrowed := true }
def LoopsTellsUptoSaid : Prop := loopsTellsUptoRow.holds Try.pinned (OpenSpec.upto loopsTellsSpec)

/-- 'dyehouselaw21.LoopsNest', WHERE WHAT IT READS IS OF BULK AT MOST 1048576: true; the input reads as it did. -/
def loopsNestUptoRow : OpenClaim := { program := "ytoojnagdenoknaa", sum := "13b50b0f27c177e4d5d3a3e249890c8e8bbb1f0031f24c66b0442658c1e862f1", func := "dyehouse/dyehouselaw21.LoopsNest", spec := "loopsNest", unfollowed := true, recurses := true, apart := false, narrowed := true }
def LoopsNestUptoSaid : Prop := loopsNestUptoRow.holds Try.pinned (OpenSpec.upto loopsNestSpec)

/-- 'dyehouselaw21.LoopsHeads', WHERE WHAT IT READS IS OF BULK AT MOST 1048576: true; the input reads as it did. -/
def loopsHeadsUptoRow : OpenClaim := { program := "ytoojnagdenoknaa", sum := "13b50b0f27c177e4d5d3a3e249890c8e8bbb1f0031f24c66b0442658c1e862f1", func := "dyehouse/dyehouselaw21.LoopsHeads", spec := "loopsHeads", unfollowed := true, recurses := true, apart := false, narrowed := true }
def LoopsHeadsUptoSaid : Prop := loopsHeadsUptoRow.holds Try.pinned (OpenSpec.upto loopsHeadsSpec)

/-- 'dyehouselaw45.ReportBoth', WHERE WHAT IT READS IS OF BULK AT MOST 1048576: true; the input reads as it did. -/
def reportBothUptoRow : OpenClaim := { program := "ytoojnagdenoknaa", sum := "13b50b0f27c177e4d5d3a3e249890c8e8bbb1f0031f24c66b0442658c1e862f1", func := "dyehouse/dyehouselaw45.ReportBoth", spec := "reportBoth", inPlace := ["internal/abi.NoEscape"], unfollowed := true, recurses := true, apart := false, narrowed := true }
def ReportBothUptoSaid : Prop := reportBothUptoRow.holds Try.pinned (OpenSpec.upto reportBothSpec)

end Rows
end Go.Proofs.Ytoojnagdenoknaa
