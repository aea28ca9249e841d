/- The ideal logic: from a law's contract to its calls, and what its row wants. -/
import Derived.Test.YtoojnagdenoknaaILG
import Derived.WalkKit
import Derived.ProofKit
import Derived.OpenShut
import Derived.JoinedCond
import Derived.WideShapes
set_option linter.unusedSectionVars false
set_option linter.unnecessarySimpa false
set_option linter.unusedVariables false
set_option linter.unusedSimpArgs false
namespace Go.Proofs.Ytoojnagdenoknaa.IL
open Go Go.RowKit Go.ChangeShapes Go.WideShapes Go.ChangeAt
theorem law_calls{P:Program}{f:FuncId}{ivs:List IV}{us:Array Value}{w:World}(hG:GOk fun a x=>kno w a=some x)(h:CallW P f ivs (.nil fun _=>0) fun v _=>v= .bool true)(hv:VRs (fun _=>none) (fun a x=>kno w a=some x) ivs us):
  Calls P f us w fun e w'=>e= .returned (.bool true)∧Below w.heap.size w w':=by
 refine(h.2 (fun _=>none) (fun a x=>kno w a=some x) w us hG (nil_rel (fun _ _ h=>h) _) hv).mono ?_
 rintro e w' ⟨J',S',u,v,H',rfl,rfl,hu,hH',hE⟩
 cases hu
 exact⟨rfl,hE.os,hE.tape,hE.output,hE.size,fun k hk=>hE.keep k hk yR⟩
theorem arg_agg{w:World}{ivs:List IV}{us:Array Value}(h:Vs w ivs us.toList):VR (fun _=>none) (fun a x=>kno w a=some x) (.agg ivs) (.agg us):=
 .agg (by simpa using h.1) fun k v u hv hu=>h.2 k v u hv (by simpa using hu)
theorem args1{J:Inj}{S:Sure}{a:IV}{u:Value}(h:VR J S a u):VRs J S [a] #[u]:=by
 refine⟨rfl,fun k v x hv hx=>?_⟩
 cases k with
 |zero=>simp at hv hx;subst hv;subst hx;exact h
 |succ k=>simp at hv
theorem args2{J:Inj}{S:Sure}{a b:IV}{u v:Value}(h:VR J S a u)(k:VR J S b v):VRs J S [a,b] #[u,v]:=(args1 h).append (args1 k)
end Go.Proofs.Ytoojnagdenoknaa.IL
