/- The contract of the law IrSames: its code computes the pure law, and that is true. -/
import Derived.Test.YtodafoajkajnkaaSameX
import Derived.Test.YtodafoajkajnkaaPJB
import Derived.Test.YtodafoajkajnkaaPJ3
set_option linter.unusedVariables false
namespace Go.Proofs.Ytodafoajkajnkaa.IL
open Go Go.RowKit PL
theorem bk_A2 {α : Type} (e : α → List IV) (x : A2 α) : bkL (eA2 e x) = bkL (e x.a0) + bkL (e x.a1) := bkL_append _ _
theorem uIr_bulk {u : Unt} (h : bkL (eUnt u) ≤ 1048576) : uIr u := by
  rw [bk_Unt, bk_Tgt, bk_Al, bk_A2, bk_A2, bk_S, bk_S, bk_S] at h
  have h1 := bk_len (f := eInt) (fun x => by simp [eInt]) u.target.clobber.a0
  have h2 := bk_len (f := eInt) (fun x => by simp [eInt]) u.target.clobber.a1
  have h3 := bk_len (f := eSg) (fun x => by simp [eSg]) u.alloc.segs
  exact ⟨fIr_bulk (by omega), by omega, by omega, by omega⟩
theorem IrSames_spec (a : Unt) (wa : wUnt a) (ha : bkL (eUnt a) ≤ 1048576) (b : Unt) (wb : wUnt b) (hb : bkL (eUnt b) ≤ 1048576) :
    CallW Try.prog 9 [.agg (eUnt a), .agg (eUnt b)] (.nil fun _ => 0) fun v _ => v = .bool true :=
  (PCall.at (w_dyehouselaw12_IrSames (sames_law (uIr_bulk ha) (uIr_bulk hb))) _).mono fun v H' h => h.1
end Go.Proofs.Ytodafoajkajnkaa.IL
