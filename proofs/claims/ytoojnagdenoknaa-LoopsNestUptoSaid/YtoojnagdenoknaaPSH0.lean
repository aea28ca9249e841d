/- What a law is given: cells of the right shape are those of a value; the simple ones. -/
import Derived.Test.YtoojnagdenoknaaPE0
import Derived.Test.YtoojnagdenoknaaILG
set_option linter.unusedSectionVars false
set_option linter.unnecessarySimpa false
set_option linter.unusedVariables false
set_option linter.unusedSimpArgs false
namespace Go.Proofs.Ytoojnagdenoknaa.IL
open Go Go.RowKit PL
theorem sh_bool{P:Program}{n:Nat}{t:TypeId}{r:List IV}(hu:P.underlying t=some .bool)(h:Shape P n t r): ∃b,r=eBool b∧True:=by
 cases n with
 |zero=>exact h.elim
 |succ n=>simp only[Shape,hu] at h;obtain⟨b,rfl⟩:=h;exact⟨b,rfl,trivial⟩
theorem sh_int{P:Program}{n:Nat}{t:TypeId}{k:IntKind}{r:List IV}(hu:P.underlying t=some (.int k))(h:Shape P n t r): ∃z,r=eI k z∧(Lit.int k z).wf=true:=by
 cases n with
 |zero=>exact h.elim
 |succ n=>simp only[Shape,hu] at h;exact h
theorem sh_str{P:Program}{n:Nat}{t:TypeId}{r:List IV}(hu:P.underlying t=some .string)(h:Shape P n t r): ∃s,r=eStr s∧True:=by
 cases n with
 |zero=>exact h.elim
 |succ n=>simp only[Shape,hu] at h;obtain⟨b,rfl⟩:=h;exact⟨b,rfl,trivial⟩
theorem kC{P:Program}{n:Nat}{t e:TypeId}{r:List IV}{α:Type}{f:α→List IV}{W:α→Prop}(hu:P.underlying t=some (.slice e))(hf: ∀n r,Shape P n e r→ ∃x,r=f x∧W x)(h:Shape P n t r):
  ∃xs:List α,r=[.sim (xs.map f) false]∧ ∀x∈xs,W x:=by
 cases n with
 |zero=>exact h.elim
 |succ n=>
  simp only[Shape,hu] at h
  obtain⟨rows,rfl,h⟩:=h
  have key: ∀rows:List (List IV),(∀r∈rows,Shape P n e r)→ ∃xs:List α,rows=xs.map f∧ ∀x∈xs,W x:=by
   intro rows
   induction rows with
   |nil=>exact fun _=>⟨[],rfl,by simp⟩
   |cons r rows ih=>
    intro h
    obtain⟨x,h1,h2⟩:=hf n r (h r (by simp))
    obtain⟨xs,h3,h4⟩:=ih fun q hq=>h q (by simp[hq])
    exact⟨x::xs,by rw[List.map_cons,←h1,←h3],fun y hy=>by
     rcases List.mem_cons.1 hy with rfl|hy
     ·exact h2
     ·exact h4 y hy⟩
  obtain⟨xs,rfl,h2⟩:=key rows h
  exact⟨xs,rfl,h2⟩
theorem yp{P:Program}{n:Nat}{t:TypeId}{r:List IV}(hu:P.underlying t=some (.int .i64))(h:Shape P n t r): ∃z,r=eInt z∧(Lit.int .i64 z).wf=true:=sh_int hu h
theorem bk_mem{α:Type}{f:α→List IV}{xs:List α}{x:α}(h:x∈xs):bkL (f x)≤bkR (xs.map f):=by
 induction xs with
 |nil=>cases h
 |cons y xs ih=>
  simp only[List.map_cons,bkR]
  rcases List.mem_cons.1 h with rfl|h
  ·omega
  ·have:=ih h;omega
theorem bk_pos{l:List IV}(h:l≠[]):1≤bkL l:=by
 cases l with
 |nil=>exact absurd rfl h
 |cons v l=>cases v<;>simp[bkL,bk]<;>omega
theorem bk_len{α:Type}{f:α→List IV}(hf: ∀x,f x≠[])(xs:List α):xs.length≤bkR (xs.map f):=by
 induction xs with
 |nil=>simp
 |cons y xs ih=>
  simp only[List.map_cons,bkR,List.length_cons]
  have:=bk_pos (hf y)
  omega
end Go.Proofs.Ytoojnagdenoknaa.IL
