/- A draft of bounded bulk has few pieces, of right numbers. -/
import Derived.Test.YtoojnagdenoknaaPSH
import Derived.Test.YtoojnagdenoknaaVL
set_option linter.unusedSectionVars false
set_option linter.unnecessarySimpa false
set_option linter.unusedVariables false
set_option linter.unusedSimpArgs false
namespace Go.Proofs.Ytoojnagdenoknaa.IL
open Go Go.RowKit PL
theorem zzq{z:Int}(h:(Lit.int .u8 z).wf=true):u8 z:=by
 simp only[Lit.wf,Bool.and_eq_true,decide_eq_true_eq] at h
 have h1:IntKind.u8.min=0:=by decide
 have h2:IntKind.u8.max=255:=by decide
 rw[h1,h2] at h
 exact⟨h.1,by omega⟩
theorem rD_wf{d:Drf}(w:wDrf d):rD d:=by
 obtain⟨h1,h2,h3,h4⟩:=w
 refine⟨zzq h1,zzq h2,zzq h3,fun b hb=>?_⟩
 obtain⟨k1,k2,k3,k4,k5⟩:=h4 b hb
 exact⟨fun y hy=>by obtain⟨q1,q2,q3,q4,_⟩:=k1 y hy;exact⟨zzq q1,zzq q2,zzq q3,zzq q4⟩,zzq k2,zzq k3,zzq k4,zzq k5⟩
theorem bk_Sm{α:Type}(e:α→List IV)(xs:List α):bkL (eS e xs)=bkR (xs.map e)+1:=by simp[eS,bkL,bk]
theorem bk_dbs: ∀bs:List DBl,(bs.map fun b=>1+b.code.length).sum≤bkR (bs.map eDBl)
 |[]=>by simp
 |b::bs=>by
  have h1:=bk_dbs bs
  have h2:1+b.code.length≤bkL (eDBl b):=by
   rw[bk_DBl,bk_Sm]
   have:=bk_len (f:=eDIns) (fun x=>by simp[eDIns]) b.code
   omega
  rw[show(b::bs).map eDBl=eDBl b::bs.map eDBl from rfl,bkR]
  simp only[List.map_cons,List.sum_cons]
  omega
theorem drf_bulk{d:Drf}(h:bkL (eDrf d)≤1048576):(d.blocks.map fun b=>1+b.code.length).sum≤1048576:=by
 rw[bk_Drf,bk_Sm] at h
 have:=bk_dbs d.blocks
 omega
end Go.Proofs.Ytoojnagdenoknaa.IL
