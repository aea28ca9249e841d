/- What a law is given: cells of the right shape are those of a value. Printed by types.py. -/
import Derived.Test.YtoojnagdenoknaaPE
import Derived.Test.YtoojnagdenoknaaPSH0
set_option linter.unusedSectionVars false
set_option linter.unnecessarySimpa false
set_option linter.unusedVariables false
set_option linter.unusedSimpArgs false
set_option maxRecDepth 100000
namespace Go.Proofs.Ytoojnagdenoknaa.IL
open Go Go.RowKit PL
theorem sh_DIns(n:Nat)(r:List IV)(h:Shape Try.prog n 111 r): ∃x,r=eDIns x∧wDIns x:=by
 cases n with
 |zero=>exact h.elim
 |succ n=>
  simp only[Shape,Try.underlying111,ShapeF] at h
  obtain⟨a0,b0,rfl,h0,a1,b1,rfl,h1,a2,b2,rfl,h2,a3,b3,rfl,h3,a4,b4,rfl,h4,rfl⟩:=h
  obtain⟨x0,rfl,w0⟩:=kf (P:=Try.prog) Try.underlying5 h0
  obtain⟨x1,rfl,w1⟩:=kf (P:=Try.prog) Try.underlying5 h1
  obtain⟨x2,rfl,w2⟩:=kf (P:=Try.prog) Try.underlying5 h2
  obtain⟨x3,rfl,w3⟩:=kf (P:=Try.prog) Try.underlying5 h3
  obtain⟨x4,rfl,w4⟩:=kf (P:=Try.prog) Try.underlying109 h4
  exact⟨⟨x0,x1,x2,x3,x4⟩,by simp[eDIns,eBool,eStr,eInt,eI,eS,eA2],⟨w0,w1,w2,w3,w4⟩⟩
theorem sh_DBl(n:Nat)(r:List IV)(h:Shape Try.prog n 100 r): ∃x,r=eDBl x∧wDBl x:=by
 cases n with
 |zero=>exact h.elim
 |succ n=>
  simp only[Shape,Try.underlying100,ShapeF] at h
  obtain⟨a0,b0,rfl,h0,a1,b1,rfl,h1,a2,b2,rfl,h2,a3,b3,rfl,h3,a4,b4,rfl,h4,rfl⟩:=h
  obtain⟨x0,rfl,w0⟩:=sh_slice (P:=Try.prog) Try.underlying98 (f:=eDIns) (fun n r h=>sh_DIns _ _ h) h0
  obtain⟨x1,rfl,w1⟩:=kf (P:=Try.prog) Try.underlying5 h1
  obtain⟨x2,rfl,w2⟩:=kf (P:=Try.prog) Try.underlying5 h2
  obtain⟨x3,rfl,w3⟩:=kf (P:=Try.prog) Try.underlying5 h3
  obtain⟨x4,rfl,w4⟩:=kf (P:=Try.prog) Try.underlying5 h4
  exact⟨⟨x0,x1,x2,x3,x4⟩,by simp[eDBl,eBool,eStr,eInt,eI,eS,eA2],⟨w0,w1,w2,w3,w4⟩⟩
theorem bk_DBl(x:DBl):bkL (eDBl x)=bkL ((eS eDIns) x.code)+1+1+1+1:=by
 simp[eDBl,bkL,bk,eBool,eStr,eInt,eI,eS,eA2,Nat.add_assoc]<;>omega
theorem sh_Drf(n:Nat)(r:List IV)(h:Shape Try.prog n 51 r): ∃x,r=eDrf x∧wDrf x:=by
 cases n with
 |zero=>exact h.elim
 |succ n=>
  simp only[Shape,Try.underlying51,ShapeF] at h
  obtain⟨a0,b0,rfl,h0,a1,b1,rfl,h1,a2,b2,rfl,h2,a3,b3,rfl,h3,rfl⟩:=h
  obtain⟨x0,rfl,w0⟩:=kf (P:=Try.prog) Try.underlying5 h0
  obtain⟨x1,rfl,w1⟩:=kf (P:=Try.prog) Try.underlying5 h1
  obtain⟨x2,rfl,w2⟩:=kf (P:=Try.prog) Try.underlying5 h2
  obtain⟨x3,rfl,w3⟩:=sh_slice (P:=Try.prog) Try.underlying49 (f:=eDBl) (fun n r h=>sh_DBl _ _ h) h3
  exact⟨⟨x0,x1,x2,x3⟩,by simp[eDrf,eBool,eStr,eInt,eI,eS,eA2],⟨w0,w1,w2,w3⟩⟩
theorem bk_Drf(x:Drf):bkL (eDrf x)=1+1+1+bkL ((eS eDBl) x.blocks):=by
 simp[eDrf,bkL,bk,eBool,eStr,eInt,eI,eS,eA2,Nat.add_assoc]<;>omega
end Go.Proofs.Ytoojnagdenoknaa.IL
