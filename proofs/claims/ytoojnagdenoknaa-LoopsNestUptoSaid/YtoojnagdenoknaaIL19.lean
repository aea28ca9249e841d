/- The ideal logic, part 19: what lives was made before; what a call keeps. Nothing here speaks of a given program. -/
import Derived.Test.YtoojnagdenoknaaIL18
set_option linter.unusedSectionVars false
set_option linter.unnecessarySimpa false
set_option linter.unusedVariables false
set_option linter.unusedSimpArgs false
namespace Go.Proofs.Ytoojnagdenoknaa.IL
open Go Go.RowKit
def Heap.wf(H:Heap):Prop:= ∀id b,H.get id=some b→id.g<H.next id.k
theorem RelH.wf{J:Inj}{S:Sure}{H:Heap}{w:World}(h:RelH J S H w):H.wf:=fun id b hb=>by
 obtain⟨L,hL,_⟩:=h.blk id b hb
 exact h.next id L hL
structure Kept (X:Id→Prop) (H H':Heap):Prop where
 get: ∀id,id.g<H.next id.k→ ¬X id→H'.get id=H.get id
 up: ∀k,H.next k≤H'.next k
theorem Kept.refl{X:Id→Prop}{H:Heap}:Kept X H H:=⟨fun _ _ _=>rfl,fun _=>Nat.le_refl _⟩
theorem Kept.trans{X:Id→Prop}{H H' H'':Heap}(h:Kept X H H')(k:Kept X H' H''):Kept X H H'':=
 ⟨fun id h1 h2=>(k.get id (Nat.lt_of_lt_of_le h1 (h.up _)) h2).trans (h.get id h1 h2),fun j=>Nat.le_trans (h.up j) (k.up j)⟩
theorem Kept.step{X Y:Id→Prop}{H H' H'':Heap}(h:Kept X H H')(k:Kept Y H' H'')(hy: ∀id,Y id→X id∨H.next id.k≤id.g):Kept X H H'':=
 ⟨fun id h1 h2=>(k.get id (Nat.lt_of_lt_of_le h1 (h.up _)) fun y=>(hy id y).elim h2 fun e=>by omega).trans (h.get id h1 h2),fun j=>Nat.le_trans (h.up j) (k.up j)⟩
theorem Kept.mono{X Y:Id→Prop}{H H':Heap}(h:Kept X H H')(k: ∀id,X id→Y id):Kept Y H H':=⟨fun id h1 h2=>h.get id h1 fun x=>h2 (k id x),h.up⟩
theorem Kept.live{X:Id→Prop}{H H':Heap}(h:Kept X H H')(hw:H.wf){id:Id}{b:Blk}(hb:H.get id=some b)(hx: ¬X id):H'.get id=some b:=(h.get id (hw id b hb) hx).trans hb
end Go.Proofs.Ytoojnagdenoknaa.IL
