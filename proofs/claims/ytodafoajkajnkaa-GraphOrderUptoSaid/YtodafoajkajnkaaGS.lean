/- The contract of the law GraphOrder: its code computes the pure law, and that is true. -/
import Derived.Test.YtodafoajkajnkaaOrdX
import Derived.Test.YtodafoajkajnkaaPSH
import Derived.Test.YtodafoajkajnkaaGOP
set_option linter.unusedVariables false
namespace Go.Proofs.Ytodafoajkajnkaa.IL
open Go Go.RowKit PL
theorem u8_wf {z : Int} (h : (Lit.int .u8 z).wf = true) : u8 z := by
  simp only [Lit.wf, Bool.and_eq_true, decide_eq_true_eq] at h
  have h1 : IntKind.u8.min = 0 := by decide
  have h2 : IntKind.u8.max = 255 := by decide
  rw [h1, h2] at h
  exact ⟨h.1, by omega⟩
theorem rD_wf {d : Drf} (w : wDrf d) : rD d := by
  obtain ⟨h1, h2, h3, h4⟩ := w
  refine ⟨u8_wf h1, u8_wf h2, u8_wf h3, fun b hb => ?_⟩
  obtain ⟨k1, k2, k3, k4, k5⟩ := h4 b hb
  exact ⟨fun y hy => by obtain ⟨q1, q2, q3, q4, _⟩ := k1 y hy; exact ⟨u8_wf q1, u8_wf q2, u8_wf q3, u8_wf q4⟩, u8_wf k2, u8_wf k3, u8_wf k4, u8_wf k5⟩
theorem bk_S {α : Type} (e : α → List IV) (xs : List α) : bkL (eS e xs) = bkR (xs.map e) + 1 := by simp [eS, bkL, bk]
theorem bk_dbs : ∀ bs : List DBl, (bs.map fun b => 1 + b.code.length).sum ≤ bkR (bs.map eDBl)
  | [] => by simp
  | b :: bs => by
    have h1 := bk_dbs bs
    have h2 : 1 + b.code.length ≤ bkL (eDBl b) := by
      rw [bk_DBl, bk_S]
      have := bk_len (f := eDIns) (fun x => by simp [eDIns]) b.code
      omega
    rw [show (b :: bs).map eDBl = eDBl b :: bs.map eDBl from rfl, bkR]
    simp only [List.map_cons, List.sum_cons]
    omega
theorem drf_bulk {d : Drf} (h : bkL (eDrf d) ≤ 1048576) : (d.blocks.map fun b => 1 + b.code.length).sum ≤ 1048576 := by
  rw [bk_Drf, bk_S] at h
  have := bk_dbs d.blocks
  omega
theorem GraphOrder_spec (d : Drf) (w : wDrf d) (h : bkL (eDrf d) ≤ 1048576) : CallW Try.prog 5 [.agg (eDrf d)] (.nil fun _ => 0) fun v _ => v = .bool true :=
  (PCall.at (w_dyehouselaw19_GraphOrder (law_GraphOrder (rD_wf w) (drf_bulk h))) _).mono fun v H' h => h.1
end Go.Proofs.Ytodafoajkajnkaa.IL
