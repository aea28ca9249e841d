/-
  No cell of these rows narrows 'for every input' (looked for: loops, veiled, ifaces, maps, wideKeys, modest, calm, conditions, laid).
  DERIVED. THE GIVEN ROWS OF THIS SEAT. 4 by the template 'for every input the law returns true; each argument reads behind the call as it read before'; 0 by the template 'total and deterministic' (their statements: YtmogcnnhbmaffaaGreatTotals.lean).
  GIVEN WITH THE SEED: the statements are not yours to turn. If you find one false, say at which input.
  Laid BY PROGRAM, IN A SANDBOX (cutbox-rows.mjs): the forced cells as the released guide's own fill.sh prints them over the translation f9c2938057c22d7f… (all of the seat's roots in one cut). By AI agents, Wed Nov 11 2026. No macro, syntax, notation, axiom, sorry.
-/
import Derived.Test.YtmogcnnhbmaffaaGreatChecked
import GoSem.Claim
import GoSem.ClaimJoined
import GoSem.ClaimMapViews
import Derived.JoinedTies
import Derived.KernelRfl
namespace Go.Proofs.YtmogcnnhbmaffaaGreat
/- THE CELL 'sum', in the pinned program and in every row, IS THE sha256 OF THE DUMP (.gsa) THAT YtmogcnnhbmaffaaGreatProg.lean LOADS. Nothing in Lean hashes anything: it is a label: what it is worth is what the hold of that sum in a sandbox is worth. -/
noncomputable def Tryz.pinned : Pinned := { name := "ytmogcnnhbmaffaagreat", sum := "f9c2938057c22d7f8a1b794760f72d72fcc93bb66e6dbc3cc76b5a291a638fbb", checked := Tryz.checked }
namespace Rows
def none {H : Type} : Left H := { results := [], args := [] }

/-- 'dyehouselaw23.VerifyChecks': WHATEVER THE INPUT: true; the input reads as it did. -/
def verifyChecksSpec : ChangeSpec := { name := "verifyChecks", fn := fun _ => fun
  | [d] => { results := [.lit (.bool true)], args := [d] }
  | _ => none }
def verifyChecksRow : OpenClaim := { program := "ytmogcnnhbmaffaagreat", sum := "f9c2938057c22d7f8a1b794760f72d72fcc93bb66e6dbc3cc76b5a291a638fbb", func := "dyehouse/dyehouselaw23.VerifyChecks", spec := "verifyChecks", unfollowed := true, recurses := true, apart := false }
def VerifyChecksSaid : Prop := verifyChecksRow.holds Tryz.pinned (OpenSpec.ofChange verifyChecksSpec)

/-- ITS FALSE NEIGHBOUR: 'it returns false'. Refute it at one input. -/
def verifyChecksWrong : ChangeSpec := { name := "verifyChecks", fn := fun _ => fun
  | [d] => { results := [.lit (.bool false)], args := [d] }
  | _ => none }
def VerifyChecksWrongFalsely : Prop := verifyChecksRow.holds Tryz.pinned (OpenSpec.ofChange verifyChecksWrong)

/-- 'dyehouselaw23.VerifyMade': WHATEVER THE INPUT: true; the input reads as it did. -/
def verifyMadeSpec : ChangeSpec := { name := "verifyMade", fn := fun _ => fun
  | [d] => { results := [.lit (.bool true)], args := [d] }
  | _ => none }
def verifyMadeRow : OpenClaim := { program := "ytmogcnnhbmaffaagreat", sum := "f9c2938057c22d7f8a1b794760f72d72fcc93bb66e6dbc3cc76b5a291a638fbb", func := "dyehouse/dyehouselaw23.VerifyMade", spec := "verifyMade", unfollowed := true, recurses := true, apart := false }
def VerifyMadeSaid : Prop := verifyMadeRow.holds Tryz.pinned (OpenSpec.ofChange verifyMadeSpec)

/-- ITS FALSE NEIGHBOUR: 'it returns false'. Refute it at one input. -/
def verifyMadeWrong : ChangeSpec := { name := "verifyMade", fn := fun _ => fun
  | [d] => { results := [.lit (.bool false)], args := [d] }
  | _ => none }
def VerifyMadeWrongFalsely : Prop := verifyMadeRow.holds Tryz.pinned (OpenSpec.ofChange verifyMadeWrong)

/-- 'dyehouselaw23.VerifyMany': WHATEVER THE INPUT: true; the input reads as it did. -/
def verifyManySpec : ChangeSpec := { name := "verifyMany", fn := fun _ => fun
  | [d1, d2] => { results := [.lit (.bool true)], args := [d1, d2] }
  | _ => none }
def verifyManyRow : OpenClaim := { program := "ytmogcnnhbmaffaagreat", sum := "f9c2938057c22d7f8a1b794760f72d72fcc93bb66e6dbc3cc76b5a291a638fbb", func := "dyehouse/dyehouselaw23.VerifyMany", spec := "verifyMany", unfollowed := true, recurses := true, apart := false }
def VerifyManySaid : Prop := verifyManyRow.holds Tryz.pinned (OpenSpec.ofChange verifyManySpec)

/-- ITS FALSE NEIGHBOUR: 'it returns false'. Refute it at one input. -/
def verifyManyWrong : ChangeSpec := { name := "verifyMany", fn := fun _ => fun
  | [d1, d2] => { results := [.lit (.bool false)], args := [d1, d2] }
  | _ => none }
def VerifyManyWrongFalsely : Prop := verifyManyRow.holds Tryz.pinned (OpenSpec.ofChange verifyManyWrong)

/-- 'dyehouselaw23.VerifyHolds': WHATEVER THE INPUT: true; the input reads as it did. -/
def verifyHoldsSpec : ChangeSpec := { name := "verifyHolds", fn := fun _ => fun
  | [d] => { results := [.lit (.bool true)], args := [d] }
  | _ => none }
def verifyHoldsRow : OpenClaim := { program := "ytmogcnnhbmaffaagreat", sum := "f9c2938057c22d7f8a1b794760f72d72fcc93bb66e6dbc3cc76b5a291a638fbb", func := "dyehouse/dyehouselaw23.VerifyHolds", spec := "verifyHolds", unfollowed := true, recurses := true, apart := false }
def VerifyHoldsSaid : Prop := verifyHoldsRow.holds Tryz.pinned (OpenSpec.ofChange verifyHoldsSpec)

/-- ITS FALSE NEIGHBOUR: 'it returns false'. Refute it at one input. -/
def verifyHoldsWrong : ChangeSpec := { name := "verifyHolds", fn := fun _ => fun
  | [d] => { results := [.lit (.bool false)], args := [d] }
  | _ => none }
def VerifyHoldsWrongFalsely : Prop := verifyHoldsRow.holds Tryz.pinned (OpenSpec.ofChange verifyHoldsWrong)

/- THE SECOND FORM. 'bulk': how many values and letters a reading holds, each counted each time it is reached (what is shared counts as often as it is met; a slice's spare places count too). A statement '..UptoSaid' is the law's where the arguments, and the package variables that the reading takes, are together of bulk at most 1048576: NARROWER than '..Said'. Prove '..Said' where nothing that the law and all that it calls make is longer than what came in: it says more and counts as full. Else prove '..UptoSaid'. A law counts once. -/
mutual
def uptoBulk {H : Type} : DataW H → Nat
  | .lit (.string bytes) => bytes.length + 1
  | .lit _ => 1
  | .nil => 1
  | .ptr d => uptoBulk d + 1
  | .slice elems spare => uptoBulkAll elems + uptoBulkAll spare + 1
  | .agg parts => uptoBulkAll parts + 1
  | .iface _ d => uptoBulk d + 1
  | .map entries => uptoBulkEntries entries + 1
  | .held _ => 1
def uptoBulkAll {H : Type} : List (DataW H) → Nat
  | [] => 0
  | d :: r => uptoBulk d + uptoBulkAll r
def uptoBulkEntries {H : Type} : List (Lit × DataW H) → Nat
  | [] => 0
  | x :: r => uptoBulkEntry x + uptoBulkEntries r
def uptoBulkEntry {H : Type} : Lit × DataW H → Nat
  | (.string bytes, d) => bytes.length + uptoBulk d + 1
  | (_, d) => uptoBulk d + 1
 end
def uptoSmall : (H : Type) → List (DataW H) → Bool := fun _ ds => decide (uptoBulkAll ds ≤ 1048576)
def OpenSpec.upto (s : _root_.Go.ChangeSpec) : _root_.Go.OpenSpec := { _root_.Go.OpenSpec.ofChange s with cond := some uptoSmall }

/-- 'dyehouselaw23.VerifyChecks', WHERE WHAT IT READS IS OF BULK AT MOST 1048576: true; the input reads as it did. -/
def verifyChecksUptoRow : OpenClaim := { program := "ytmogcnnhbmaffaagreat", sum := "f9c2938057c22d7f8a1b794760f72d72fcc93bb66e6dbc3cc76b5a291a638fbb", func := "dyehouse/dyehouselaw23.VerifyChecks", spec := "verifyChecks", unfollowed := true, recurses := true, apart := false, narrowed := true }
def VerifyChecksUptoSaid : Prop := verifyChecksUptoRow.holds Tryz.pinned (OpenSpec.upto verifyChecksSpec)

/-- 'dyehouselaw23.VerifyMade', WHERE WHAT IT READS IS OF BULK AT MOST 1048576: true; the input reads as it did. -/
def verifyMadeUptoRow : OpenClaim := { program := "ytmogcnnhbmaffaagreat", sum := "f9c2938057c22d7f8a1b794760f72d72fcc93bb66e6dbc3cc76b5a291a638fbb", func := "dyehouse/dyehouselaw23.VerifyMade", spec := "verifyMade", unfollowed := true, recurses := true, apart := false, narrowed := true }
def VerifyMadeUptoSaid : Prop := verifyMadeUptoRow.holds Tryz.pinned (OpenSpec.upto verifyMadeSpec)

/-- 'dyehouselaw23.VerifyMany', WHERE WHAT IT READS IS OF BULK AT MOST 1048576: true; the input reads as it did. -/
def verifyManyUptoRow : OpenClaim := { program := "ytmogcnnhbmaffaagreat", sum := "f9c2938057c22d7f8a1b794760f72d72fcc93bb66e6dbc3cc76b5a291a638fbb", func := "dyehouse/dyehouselaw23.VerifyMany", spec := "verifyMany", unfollowed := true, recurses := true, apart := false, narrowed := true }
def VerifyManyUptoSaid : Prop := verifyManyUptoRow.holds Tryz.pinned (OpenSpec.upto verifyManySpec)

/-- 'dyehouselaw23.VerifyHolds', WHERE WHAT IT READS IS OF BULK AT MOST 1048576: true; the input reads as it did. -/
def verifyHoldsUptoRow : OpenClaim := { program := "ytmogcnnhbmaffaagreat", sum := "f9c2938057c22d7f8a1b794760f72d72fcc93bb66e6dbc3cc76b5a291a638fbb", func := "dyehouse/dyehouselaw23.VerifyHolds", spec := "verifyHolds", unfollowed := true, recurses := true, apart := false, narrowed := true }
def VerifyHoldsUptoSaid : Prop := verifyHoldsUptoRow.holds Tryz.pinned (OpenSpec.upto verifyHoldsSpec)

end Rows
end Go.Proofs.YtmogcnnhbmaffaaGreat
