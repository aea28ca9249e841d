/- A function of bounded bulk has lists that are not too long. -/
import Derived.Test.YtodafoajkajnkaaPSH
import Derived.Test.YtodafoajkajnkaaPK1
set_option linter.unusedVariables false
set_option linter.unusedSimpArgs false
namespace Go.Proofs.Ytodafoajkajnkaa.IL
open Go Go.RowKit PL
theorem bk_S {α : Type} (e : α → List IV) (xs : List α) : bkL (eS e xs) = bkR (xs.map e) + 1 := by simp [eS, bkL, bk]
theorem iIr_bulk {i : Ins} (h : bkL (eIns i) ≤ 1048576) : iIr i := by
  rw [bk_Ins, bk_S, bk_S, bk_S] at h
  have h1 := bk_len (f := eOpd) (fun x => by simp [eOpd]) i.args
  have h2 := bk_len (f := eStr) (fun x => by simp [eStr]) i.labels
  have h3 := bk_len (f := eInt) (fun x => by simp [eInt]) i.cases
  exact ⟨by omega, by omega, by omega⟩
theorem bIr_bulk {b : Bl} (h : bkL (eBl b) ≤ 1048576) : bIr b := by
  rw [bk_Bl, bk_S, bk_S] at h
  have h1 := bk_len (f := eOpd) (fun x => by simp [eOpd]) b.ins
  have h2 := bk_len (f := eIns) (fun x => by simp [eIns]) b.code
  refine ⟨by omega, by omega, fun i hi => iIr_bulk ?_⟩
  have := bk_mem (f := eIns) hi
  omega
theorem fIr_bulk {f : Fnc} (h : bkL (eFnc f) ≤ 1048576) : fIr f := by
  rw [bk_Fnc, bk_S, bk_S, bk_S] at h
  have h1 := bk_len (f := eRg) (fun x => by simp [eRg]) f.regs
  have h2 := bk_len (f := eOpd) (fun x => by simp [eOpd]) f.params
  have h3 := bk_len (f := eBl) (fun x => by simp [eBl]) f.blocks
  refine ⟨by omega, by omega, by omega, fun b hb => bIr_bulk ?_⟩
  have := bk_mem (f := eBl) hb
  omega
end Go.Proofs.Ytodafoajkajnkaa.IL
