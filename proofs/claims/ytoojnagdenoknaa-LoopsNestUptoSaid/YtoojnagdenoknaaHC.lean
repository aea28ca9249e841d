/- A function of bounded bulk has lists that are not too long. -/
import Derived.Test.YtoojnagdenoknaaPSH
import Derived.Test.YtoojnagdenoknaaVL
set_option linter.unusedSectionVars false
set_option linter.unnecessarySimpa false
set_option linter.unusedVariables false
set_option linter.unusedSimpArgs false
namespace Go.Proofs.Ytoojnagdenoknaa.IL
open Go Go.RowKit PL
theorem bk_S{α:Type}(e:α→List IV)(xs:List α):bkL (eS e xs)=bkR (xs.map e)+1:=by simp[eS,bkL,bk]
theorem fOk_bulk{f:Fnc}(h:bkL (eFnc f)≤1048576):fOk f:=by
 rw[bk_Fnc,bk_S,bk_S,bk_S] at h
 have h3:=bk_len (f:=eBl) (fun x=>by simp[eBl]) f.blocks
 have hb: ∀b∈f.blocks,bkL (eBl b)≤1048576:=fun b hb=>by
  have:=bk_mem (f:=eBl) hb
  omega
 refine⟨by omega,fun b hb'=>?_⟩
 have h4:=hb b hb'
 rw[bk_Bl,bk_S,bk_S] at h4
 have h5:=bk_len (f:=eIns) (fun x=>by simp[eIns]) b.code
 refine⟨by omega,fun i hi=>?_⟩
 have h6:=bk_mem (f:=eIns) hi
 have h7:bkL (eIns i)≤1048576:=by omega
 rw[bk_Ins,bk_S,bk_S,bk_S] at h7
 have h2:=bk_len (f:=eStr) (fun x=>by simp[eStr]) i.labels
 omega
end Go.Proofs.Ytoojnagdenoknaa.IL
