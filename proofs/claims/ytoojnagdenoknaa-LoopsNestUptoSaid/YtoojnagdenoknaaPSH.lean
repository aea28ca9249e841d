/- What a law is given: cells of the right shape are those of a value. Printed by types.py. -/
import Derived.Test.YtoojnagdenoknaaPE
import Derived.Test.YtoojnagdenoknaaPSH0
set_option linter.unusedSectionVars false
set_option linter.unnecessarySimpa false
set_option linter.unusedVariables false
set_option linter.unusedSimpArgs false
set_option maxRecDepth 100000
namespace Go.Proofs.Ytoojnagdenoknaa.IL
open Go Go.RowKit PL
theorem sh_Rg(n:Nat)(r:List IV)(h:Shape Try.prog n 106 r): ∃x,r=eRg x∧wRg x:=by
 cases n with
 |zero=>exact h.elim
 |succ n=>
  simp only[Shape,Try.underlying106,ShapeF] at h
  obtain⟨a0,b0,rfl,h0,a1,b1,rfl,h1,rfl⟩:=h
  obtain⟨x0,rfl,w0⟩:=yp (P:=Try.prog) Try.underlying3 h0
  obtain⟨x1,rfl,w1⟩:=yp (P:=Try.prog) Try.underlying3 h1
  exact⟨⟨x0,x1⟩,by simp[eRg,eBool,eStr,eInt,eI,eS,eA2],⟨w0,w1⟩⟩
theorem sh_Opd(n:Nat)(r:List IV)(h:Shape Try.prog n 65 r): ∃x,r=eOpd x∧wOpd x:=by
 cases n with
 |zero=>exact h.elim
 |succ n=>
  simp only[Shape,Try.underlying65,ShapeF] at h
  obtain⟨a0,b0,rfl,h0,a1,b1,rfl,h1,a2,b2,rfl,h2,a3,b3,rfl,h3,rfl⟩:=h
  obtain⟨x0,rfl,w0⟩:=yp (P:=Try.prog) Try.underlying3 h0
  obtain⟨x1,rfl,w1⟩:=yp (P:=Try.prog) Try.underlying3 h1
  obtain⟨x2,rfl,w2⟩:=yp (P:=Try.prog) Try.underlying3 h2
  obtain⟨x3,rfl,w3⟩:=yp (P:=Try.prog) Try.underlying3 h3
  exact⟨⟨x0,x1,x2,x3⟩,by simp[eOpd,eBool,eStr,eInt,eI,eS,eA2],⟨w0,w1,w2,w3⟩⟩
theorem sh_Ins(n:Nat)(r:List IV)(h:Shape Try.prog n 68 r): ∃x,r=eIns x∧wIns x:=by
 cases n with
 |zero=>exact h.elim
 |succ n=>
  simp only[Shape,Try.underlying68,ShapeF] at h
  obtain⟨a0,b0,rfl,h0,a1,b1,rfl,h1,a2,b2,rfl,h2,a3,b3,rfl,h3,a4,b4,rfl,h4,a5,b5,rfl,h5,a6,b6,rfl,h6,rfl⟩:=h
  obtain⟨x0,rfl,w0⟩:=yp (P:=Try.prog) Try.underlying3 h0
  obtain⟨x1,rfl,w1⟩:=sh_Opd _ _ h1
  obtain⟨x2,rfl,w2⟩:=kC (P:=Try.prog) Try.underlying23 (f:=eOpd) (fun n r h=>sh_Opd _ _ h) h2
  obtain⟨x3,rfl,w3⟩:=sh_str (P:=Try.prog) Try.underlying9 h3
  obtain⟨x4,rfl,w4⟩:=yp (P:=Try.prog) Try.underlying3 h4
  obtain⟨x5,rfl,w5⟩:=kC (P:=Try.prog) Try.underlying66 (f:=eStr) (fun n r h=>sh_str (P:=Try.prog) Try.underlying9 h) h5
  obtain⟨x6,rfl,w6⟩:=kC (P:=Try.prog) Try.underlying36 (f:=eInt) (fun n r h=>yp (P:=Try.prog) Try.underlying3 h) h6
  exact⟨⟨x0,x1,x2,x3,x4,x5,x6⟩,by simp[eIns,eOpd,eBool,eStr,eInt,eI,eS,eA2],⟨w0,w1,w2,w4,w6⟩⟩
theorem bk_Ins(x:Ins):bkL (eIns x)=1+bkL (eOpd x.dst)+bkL ((eS eOpd) x.args)+bkL (eStr x.name)+1+bkL ((eS eStr) x.labels)+bkL ((eS eInt) x.cases):=by
 simp[eIns,eOpd,bkL,bk,eBool,eStr,eInt,eI,eS,eA2,Nat.add_assoc]<;>omega
theorem sh_Bl(n:Nat)(r:List IV)(h:Shape Try.prog n 63 r): ∃x,r=eBl x∧wBl x:=by
 cases n with
 |zero=>exact h.elim
 |succ n=>
  simp only[Shape,Try.underlying63,ShapeF] at h
  obtain⟨a0,b0,rfl,h0,a1,b1,rfl,h1,a2,b2,rfl,h2,a3,b3,rfl,h3,rfl⟩:=h
  obtain⟨x0,rfl,w0⟩:=sh_str (P:=Try.prog) Try.underlying9 h0
  obtain⟨x1,rfl,w1⟩:=sh_bool (P:=Try.prog) Try.underlying4 h1
  obtain⟨x2,rfl,w2⟩:=kC (P:=Try.prog) Try.underlying23 (f:=eOpd) (fun n r h=>sh_Opd _ _ h) h2
  obtain⟨x3,rfl,w3⟩:=kC (P:=Try.prog) Try.underlying61 (f:=eIns) (fun n r h=>sh_Ins _ _ h) h3
  exact⟨⟨x0,x1,x2,x3⟩,by simp[eBl,eBool,eStr,eInt,eI,eS,eA2],⟨w2,w3⟩⟩
theorem bk_Bl(x:Bl):bkL (eBl x)=bkL (eStr x.label)+1+bkL ((eS eOpd) x.ins)+bkL ((eS eIns) x.code):=by
 simp[eBl,bkL,bk,eBool,eStr,eInt,eI,eS,eA2,Nat.add_assoc]<;>omega
theorem sh_Fnc(n:Nat)(r:List IV)(h:Shape Try.prog n 26 r): ∃x,r=eFnc x∧wFnc x:=by
 cases n with
 |zero=>exact h.elim
 |succ n=>
  simp only[Shape,Try.underlying26,ShapeF] at h
  obtain⟨a0,b0,rfl,h0,a1,b1,rfl,h1,a2,b2,rfl,h2,a3,b3,rfl,h3,a4,b4,rfl,h4,rfl⟩:=h
  obtain⟨x0,rfl,w0⟩:=sh_bool (P:=Try.prog) Try.underlying4 h0
  obtain⟨x1,rfl,w1⟩:=sh_str (P:=Try.prog) Try.underlying9 h1
  obtain⟨x2,rfl,w2⟩:=kC (P:=Try.prog) Try.underlying22 (f:=eRg) (fun n r h=>sh_Rg _ _ h) h2
  obtain⟨x3,rfl,w3⟩:=kC (P:=Try.prog) Try.underlying23 (f:=eOpd) (fun n r h=>sh_Opd _ _ h) h3
  obtain⟨x4,rfl,w4⟩:=kC (P:=Try.prog) Try.underlying24 (f:=eBl) (fun n r h=>sh_Bl _ _ h) h4
  exact⟨⟨x0,x1,x2,x3,x4⟩,by simp[eFnc,eBool,eStr,eInt,eI,eS,eA2],⟨w2,w3,w4⟩⟩
theorem bk_Fnc(x:Fnc):bkL (eFnc x)=1+bkL (eStr x.name)+bkL ((eS eRg) x.regs)+bkL ((eS eOpd) x.params)+bkL ((eS eBl) x.blocks):=by
 simp[eFnc,bkL,bk,eBool,eStr,eInt,eI,eS,eA2,Nat.add_assoc]<;>omega
end Go.Proofs.Ytoojnagdenoknaa.IL
