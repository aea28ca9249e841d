/- The contract of the law VerifyMade: its code computes the pure law, and that is true. -/
import Derived.Test.YtmogcnnhbmaffaaGreatUniX
import Derived.Test.YtmogcnnhbmaffaaGreatPSH
import Derived.Test.YtmogcnnhbmaffaaGreatVL
set_option linter.unusedVariables false
namespace Go.Proofs.YtmogcnnhbmaffaaGreat.IL
open Go Go.RowKit PL
theorem zzy{z:Int}(h:(Lit.int .u8 z).wf=true):u8 z:=by
 simp only[Lit.wf,Bool.and_eq_true,decide_eq_true_eq] at h
 have h1:IntKind.u8.min=0:=by decide
 have h2:IntKind.u8.max=255:=by decide
 rw[h1,h2] at h
 exact⟨h.1,by omega⟩
theorem rD_wf{d:Drf}(w:wDrf d):rD d:=by
 obtain⟨h1,h2,h3,h4⟩:=w
 refine⟨zzy h1,zzy h2,zzy h3,fun b hb=>?_⟩
 obtain⟨k1,k2,k3,k4,k5⟩:=h4 b hb
 exact⟨fun y hy=>by obtain⟨q1,q2,q3,q4,_⟩:=k1 y hy;exact⟨zzy q1,zzy q2,zzy q3,zzy q4⟩,zzy k2,zzy k3,zzy k4,zzy k5⟩
theorem bk_Sm{α:Type}(e:α→List IV)(xs:List α):bkL (eS e xs)=bkR (xs.map e)+1:=by simp[eS,bkL,bk]
theorem bk_dbs: ∀bs:List DBl,(bs.map fun b=>1+b.code.length).sum≤bkR (bs.map eDBl)
 |[]=>by simp
 |b::bs=>by
  have h1:=bk_dbs bs
  have h2:1+b.code.length≤bkL (eDBl b):=by
   rw[bk_DBl,bk_Sm]
   have:=bk_len (f:=eDIns) (fun x=>by simp[eDIns]) b.code
   omega
  rw[show(b::bs).map eDBl=eDBl b::bs.map eDBl from rfl,bkR]
  simp only[List.map_cons,List.sum_cons]
  omega
theorem drf_bulk{d:Drf}(h:bkL (eDrf d)≤1048576):(d.blocks.map fun b=>1+b.code.length).sum≤1048576:=by
 rw[bk_Drf,bk_Sm] at h
 have:=bk_dbs d.blocks
 omega
theorem VerifyMade_spec(d:Drf)(w:wDrf d)(h:bkL (eDrf d)≤1048576):CallW Tryz.prog 4 [.agg (eDrf d)] (.nil fun _=>0) fun v _=>v= .bool true:=
 (PCall.at (wz7s (law_VerifyMade (rD_wf w) (drf_bulk h))) _).mono fun v H' h=>h.1
end Go.Proofs.YtmogcnnhbmaffaaGreat.IL
