/- The contract of the law GraphAway: its code computes the pure law, and that is true. -/
import Derived.Test.YtodafoajkajnkaaBx
import Derived.Test.YtodafoajkajnkaaPSH
import Derived.Test.YtodafoajkajnkaaPA5
set_option linter.unusedVariables false
namespace Go.Proofs.Ytodafoajkajnkaa.IL
open Go Go.RowKit PL
theorem bk_S {α : Type} (e : α → List IV) (xs : List α) : bkL (eS e xs) = bkR (xs.map e) + 1 := by simp [eS, bkL, bk]
theorem fOk_bulk {f : Fnc} (h : bkL (eFnc f) ≤ 1048576) : fOk f := by
  rw [bk_Fnc, bk_S, bk_S, bk_S] at h
  refine ⟨?_, ?_⟩
  · have := bk_len (f := eBl) (fun x => by simp [eBl]) f.blocks
    omega
  · intro b hb
    have h1 := bk_mem (f := eBl) hb
    rw [bk_Bl, bk_S, bk_S] at h1
    refine ⟨?_, ?_⟩
    · have := bk_len (f := eIns) (fun x => by simp [eIns]) b.code
      omega
    · intro i hi
      have h2 := bk_mem (f := eIns) hi
      rw [bk_Ins, bk_S, bk_S, bk_S] at h2
      have := bk_len (f := eStr) (fun x => by simp [eStr]) i.labels
      omega
theorem GraphAway_spec (f : Fnc) (w : wFnc f) (h : bkL (eFnc f) ≤ 1048576) (t : Int) (wt : (Lit.int .i64 t).wf = true) (u : Int) (wu : (Lit.int .i64 u).wf = true) :
    CallW Try.prog 4 [.agg (eFnc f), .int .i64 t, .int .i64 u] (.nil fun _ => 0) fun v _ => v = .bool true :=
  (PCall.at (w_dyehouselaw19_GraphAway (away_law (fOk_bulk h) t u)) _).mono fun v H' h => h.1
end Go.Proofs.Ytodafoajkajnkaa.IL
