/- Plain words for texts in order. Nothing here speaks of a program. -/
import Derived.Test.YtoojnagdenoknaaPL
import Derived.Lib.SlicesCompact
set_option linter.unusedVariables false
set_option linter.unusedSimpArgs false
set_option linter.unusedSectionVars false
set_option linter.unnecessarySimpa false
namespace Go.Proofs.Ytoojnagdenoknaa.PL
open Go
def mget{κ β:Type} [DecidableEq κ]:List (κ×β)→κ→Option β
 |[],_=>none
 |p::m,k=>if k=p.1 then some p.2 else mget m k
def mhas{κ β:Type} [DecidableEq κ] (m:List (κ×β))(k:κ):Bool:=(mget m k).isSome
def mset{κ β:Type} [DecidableEq κ]:List (κ×β)→κ→β→List (κ×β)
 |[],k,x=>[(k,x)]
 |p::m,k,x=>if k=p.1 then(k,x)::m else p::mset m k x
def insI(x:Int):List Int→List Int
 |[]=>[x]
 |y::l=>if x≤y then x::y::l else y::insI x l
def isort(l:List Int):List Int:=l.foldr insI []
theorem insI_perm(x:Int)(l:List Int):List.Perm (insI x l) (x::l):=by
 induction l with
 |nil=>exact .refl _
 |cons y l ih=>
  unfold insI
  split
  ·exact .refl _
  ·exact(List.Perm.cons y ih).trans (.swap x y l)
theorem insI_sorted(x:Int)(l:List Int)(h:l.Pairwise (· ≤ ·)):(insI x l).Pairwise (· ≤ ·):=by
 induction l with
 |nil=>simp[insI]
 |cons y l ih=>
  obtain⟨h1,h2⟩:=List.pairwise_cons.1 h
  unfold insI
  split
  ·rename_i c
   refine List.pairwise_cons.2 ⟨?_,h⟩
   intro z hz
   rcases List.mem_cons.1 hz with rfl|hz
   ·exact c
   ·have:=h1 z hz;omega
  ·rename_i c
   refine List.pairwise_cons.2 ⟨?_,ih h2⟩
   intro z hz
   rcases List.mem_cons.1 ((insI_perm x l).mem_iff.1 hz) with rfl|hz
   ·omega
   ·exact h1 z hz
theorem kR(l:List Int):List.Perm (isort l) l:=by
 induction l with
 |nil=>exact .refl _
 |cons y l ih=>exact(insI_perm y (isort l)).trans (ih.cons y)
theorem kF(l:List Int):(isort l).Pairwise (· ≤ ·):=by
 induction l with
 |nil=>simp[isort]
 |cons y l ih=>exact insI_sorted y (isort l) ih
theorem sorted_same{a b:List Int}(h:a.Pairwise (· ≤ ·))(k:b.Pairwise (· ≤ ·))(p:List.Perm a b):a=b:=
 List.Perm.eq_of_pairwise (fun x y _ _ h1 h2=>Int.le_antisymm h1 h2) h k p
theorem merge_sorted(l:List Int):(l.mergeSort fun x y=>decide (x≤y)).Pairwise (· ≤ ·):=by
 have:=List.pairwise_mergeSort (le:=fun x y:Int=>decide (x≤y)) (fun a b c h k=>by simp at h k ⊢;omega) (fun a b=>by simp;omega) l
 exact this.imp (fun h=>by simpa using h)
theorem merge_isort(l:List Int):(l.mergeSort fun x y=>decide (x≤y))=isort l:=
 sorted_same (merge_sorted l) (kF l) ((List.mergeSort_perm l _).trans (kR l).symm)
end Go.Proofs.Ytoojnagdenoknaa.PL
