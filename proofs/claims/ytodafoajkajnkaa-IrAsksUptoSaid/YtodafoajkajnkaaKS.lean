/- The contract of the law IrAsks: its code computes the pure law, and that is true. -/
import Derived.Test.YtodafoajkajnkaaAskX
import Derived.Test.YtodafoajkajnkaaPKB
import Derived.Test.YtodafoajkajnkaaPK3
set_option linter.unusedVariables false
namespace Go.Proofs.Ytodafoajkajnkaa.IL
open Go Go.RowKit PL
theorem bk_cnt : ∀ bs : List Bl, cnt bs ≤ bkR (bs.map eBl)
  | [] => by simp [cnt]
  | b :: bs => by
    have h1 := bk_cnt bs
    have h2 : b.code.length ≤ bkL (eBl b) := by
      rw [bk_Bl, bk_S, bk_S]
      have := bk_len (f := eIns) (fun x => by simp [eIns]) b.code
      omega
    rw [List.map_cons, bkR]
    simp only [cnt, List.map_cons, List.sum_cons] at h1 ⊢
    omega
theorem cnt_bulk {f : Fnc} (h : bkL (eFnc f) ≤ 1048576) : cnt f.blocks ≤ 1048576 := by
  rw [bk_Fnc, bk_S, bk_S, bk_S] at h
  have := bk_cnt f.blocks
  omega
theorem IrAsks_spec (f : Fnc) (w : wFnc f) (h : bkL (eFnc f) ≤ 1048576) (v : Int) (wv : (Lit.int .i64 v).wf = true) (l : ByteArray) (wl : l.size ≤ 1048576) :
    CallW Try.prog 8 [.agg (eFnc f), .int .i64 v, .str l] (.nil fun _ => 0) fun v _ => v = .bool true :=
  (PCall.at (w_dyehouselaw12_IrAsks (asks_law (fIr_bulk h) (cnt_bulk h) v l)) _).mono fun v H' h => h.1
end Go.Proofs.Ytodafoajkajnkaa.IL
