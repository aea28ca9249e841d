/- A function of bounded bulk has lists that are not too long. -/
import Derived.Test.YtmogcnnhbmaffaaGreatPSH
import Derived.Test.YtmogcnnhbmaffaaGreatVL
set_option linter.unusedVariables false
set_option linter.unusedSimpArgs false
namespace Go.Proofs.YtmogcnnhbmaffaaGreat.IL
open Go Go.RowKit PL
theorem bk_S{α:Type}(e:α→List IV)(xs:List α):bkL (eS e xs)=bkR (xs.map e)+1:=by simp[eS,bkL,bk]
theorem fBk_bulk{f:Fnc}(h:bkL (eFnc f)≤1048576):fBk f:=by
 rw[bk_Fnc,bk_S,bk_S,bk_S] at h
 have h1:=yzc (f:=eRg) (fun x=>by simp[eRg]) f.regs
 have h2:=yzc (f:=eOpd) (fun x=>by simp[eOpd]) f.params
 have h3:=yzc (f:=eBl) (fun x=>by simp[eBl]) f.blocks
 have hb: ∀b∈f.blocks,bkL (eBl b)≤1048576:=fun b hb=>by
  have:=bk_mem (f:=eBl) hb
  omega
 have hi: ∀b∈f.blocks,b.code.length≤1048576∧ ∀i∈b.code,bkL (eIns i)≤1048576:=fun b hb'=>by
  have h4:=hb b hb'
  rw[bk_Bl,bk_S,bk_S] at h4
  have h5:=yzc (f:=eIns) (fun x=>by simp[eIns]) b.code
  exact⟨by omega,fun i hi=>by
   have:=bk_mem (f:=eIns) hi
   omega⟩
 have hx: ∀i:Ins,bkL (eIns i)≤1048576→i.args.length≤1048576∧i.labels.length≤1048576∧i.cases.length≤1048576:=fun i h=>by
  rw[bk_Ins,bk_S,bk_S,bk_S] at h
  have h1:=yzc (f:=eOpd) (fun x=>by simp[eOpd]) i.args
  have h2:=yzc (f:=eStr) (fun x=>by simp[eStr]) i.labels
  have h3:=yzc (f:=eInt) (fun x=>by simp[eInt]) i.cases
  exact⟨by omega,by omega,by omega⟩
 exact⟨⟨by omega,fun b hb'=>⟨(hi b hb').1,fun i hi'=>(hx i ((hi b hb').2 i hi')).2.1⟩⟩,by omega,by omega,fun b hb' i hi'=>⟨(hx i ((hi b hb').2 i hi')).1,(hx i ((hi b hb').2 i hi')).2.2⟩⟩
end Go.Proofs.YtmogcnnhbmaffaaGreat.IL
