/- The law AssignWays: for every input of bulk at most 1048576 the call returns true and leaves its arguments as they were. -/
import Derived.Test.YtjjdblcinoikeaaDoorVL
import Derived.Test.YtjjdblcinoikeaaDoorRows
import Derived.WalkKit
import Derived.ProofKit
import Derived.OpenShut
import Derived.JoinedCond
import Derived.Carry
import Derived.Test.YtjjdblcinoikeaaDoorPSH
import Derived.Test.YtjjdblcinoikeaaDoorCards
import Derived.Test.YtjjdblcinoikeaaDoorTie
import Derived.Deep.DeepHandedRow
import Derived.Lib.LaidTab
set_option linter.unusedVariables false
set_option linter.unusedSimpArgs false
namespace Go.Proofs.YtjjdblcinoikeaaDoor.assignWays
open Go.ChangeShapes Go.WideShapes Go.ChangeAt Go.RowKit IL PL
open Go.ChangeMaps (open_string shut_string)
theorem own:ownKnob Tryd.prog.godebug=none:=by kernel_rfl
theorem laidOut:laidOutB Tryd.prog=true:=by kernel_rfl
theorem gTab : Tryd.prog.globalNamed "math/bits.deBruijn64tab" = some 0 := by kernel_rfl
theorem gTabType:(Tryd.prog.globals[0]?).map (·.type)=some 152:=by kernel_rfl
theorem cellsT:Tryd.prog.cellsOf 152=64:=by kernel_rfl
theorem cellsE:Tryd.prog.cellsOf 5=1:=by kernel_rfl
theorem tab_len:tab_0.length=64:=rfl
theorem table {W : World} (h : laidMetH Tryd.prog Rows.assignWaysUptoRow.laid W) : Lib.TabIs Tryd.prog W "math/bits.deBruijn64tab" .u8 tab_0 :=
 Lib.tabIs_of_head (rest:=[]) gTab gTabType Tryd.underlying152 Tryd.underlying5 cellsE cellsT h
theorem gok{W:World}(h:laidMetH Tryd.prog Rows.assignWaysUptoRow.laid W):GOk fun a x=>W.cell? a=some x:=by
 intro g rows e
 have e2:g=0∧rows=[tab_0.map (IV.int .u8)]:=by
  unfold gtab at e
  split at e
  ·rename_i h0
   exact⟨h0,(Option.some.inj e).symm⟩
  ·cases e
 obtain⟨rfl,rfl⟩:=e2
 have row1: ∀(r:Nat) (row:List IV),[tab_0.map (IV.int .u8)][r]?=some row→r=0∧row=tab_0.map (IV.int .u8):=by
  intro r row hr
  cases r with
  |zero=>exact⟨rfl,(Option.some.inj hr).symm⟩
  |succ r=>simp at hr
 refine⟨64,fun _ c=> .int .u8 (tab_0.getD c 0),fun r row hr=>?_,fun r row c v hr hv=>?_,fun J r row c v hr hv=>?_⟩
 ·obtain⟨rfl,rfl⟩:=row1 r row hr
  rw[List.length_map];exact tab_len
 ·obtain⟨rfl,rfl⟩:=row1 r row hr
  have hc:c<tab_0.length:=by
   have:=(List.getElem?_eq_some_iff.1 hv).1
   rwa [List.length_map] at this
  have e3:((⟨0,0,none⟩:Addr).add (0*64+c))=⟨0,c,none⟩:=by simp[Addr.add]<;>exact fun h=>h.symm
  rw[e3]
  exact(table h).cell gTab c hc
 ·obtain⟨rfl,rfl⟩:=row1 r row hr
  rw[List.getElem?_map,Option.map_eq_some_iff] at hv
  obtain⟨z,hz,rfl⟩:=hv
  have:tab_0.getD c 0=z:=by rw[List.getD_eq_getElem?_getD,hz];rfl
  show VR J _ (.int .u8 z) (.int .u8 (tab_0.getD c 0))
  rw[this]
  exact .int _ _
set_option maxRecDepth 100000 in
theorem contract(H:Type)(enc:TypeId×Value→H)(W:World)(base:Nat)(args:Array Value)(ds gs:List (DataW H))(before:List MemPlace)
  (hval: ∀(j:Nat) t v,Tryd.f4.params[j]?=some t→args[j]?=some v→Value.okWide Tryd.prog W .any base t v)
  (hW:DataW.Whole enc Tryd.prog Tryd.f4.params.toList Rows.assignWaysSpec.vars false W args.toList ds gs before) (hk:Rows.uptoSmall H (ds++gs)=true) (hL:laidMetH Tryd.prog Rows.assignWaysUptoRow.laid W):
  Calls Tryd.prog 4 args W fun e W'=> ∃v,e= .returned v∧Rows.assignWaysSpec.post enc Tryd.prog Tryd.f4 false true false false W args v W':=by
 have hW':=hW
 obtain⟨p,q,hA0,hV,rfl,hfz,hnd⟩:=hW
 have hA:DataW.TrodAll enc Tryd.prog W 0 (fun _=>true) true Tryd.f4.params.toList args.toList ds p:=hA0
 rw[Tryd.params4] at hA hval
 obtain⟨v0,vs0,d0,ds0,p0,q0,hargs,rfl,rfl,h0,r0⟩:=trodAll_cons hA
 obtain⟨v1,vs1,d1,ds1,p1,q1,rfl,rfl,rfl,h1,r1⟩:=trodAll_cons r0
 obtain⟨rfl,rfl,rfl⟩:=trodAll_nil r1
 obtain rfl:args= #[v0,v1]:=by cases args;simp_all
 obtain⟨rfl,rfl⟩:=trodVars_none hV
 have hb:Rows.uptoBulk d0+Rows.uptoBulk d1≤1048576:=by
  have h:=of_decide_eq_true hk
  simp only[List.append_nil,Rows.uptoBulkAll] at h
  omega
 obtain⟨u0,rfl,_⟩:=okWide_struct Tryd.underlying48 (hval 0 48 v0 rfl rfl)
 have k0:=h0
 have lt0: ∀x∈p0,x.block<W.heap.size:=by obtain⟨m,hm⟩:=k0;exact DataW.trod_lt m _ _ _ hm
 obtain⟨fu0,hf0⟩:=h0
 obtain⟨iv0,a0,b0,c0⟩:=trod_iv 12 fu0 _ _ _ _ (by kernel_rfl) hf0
 obtain⟨x0,rfl,w0⟩:=sh_Drf _ _ b0
 obtain⟨sa1,sl1,sc1,rfl⟩:=okWide_slice Tryd.underlying49 (hval 1 49 v1 rfl rfl)
 have k1:=h1
 have lt1: ∀x∈p1,x.block<W.heap.size:=by obtain⟨m,hm⟩:=k1;exact DataW.trod_lt m _ _ _ hm
 obtain⟨fu1,hf1⟩:=h1
 obtain⟨iv1,a1,b1,c1⟩:=trod_iv 12 fu1 _ _ _ _ (by kernel_rfl) hf1
 obtain⟨x1,rfl,w1⟩:=sh_slice (P:=Tryd.prog) Tryd.underlying49 (f:=eI .u8) (fun n r h=>kT (P:=Tryd.prog) Tryd.underlying5 h) b1
 refine(law_calls (gok hL) (AssignWays_spec x0 w0 (by omega) x1 w1 (by omega)) (args2 (arg_agg a0) (arg_one a1))).mono fun e W' ⟨he,bel⟩=>?_
 subst he
 exact⟨_,rfl,_,_,_,[],_,[],hW',trodAll_mk1 (shut_bool Tryd.underlying4 _),(trodAll_cons_mk (Below.trod laidOut (by kernel_rfl) (of_decide_eq_true (by kernel_rfl)) k0 bel lt0) (trodAll_cons_mk (Below.trod laidOut (by kernel_rfl) (of_decide_eq_true (by kernel_rfl)) k1 bel lt1) trodAll_mk0)),rfl,bel.frame _,fun h=>by cases h⟩
noncomputable def laidWorld(os:Os):World:=
 {World.holding Tryd.prog os ⟨#[],#[],[]⟩ with heap:=(World.holding Tryd.prog os ⟨#[],#[],[]⟩).heap.modify 0 fun
   | .cells _ t frozen=> .cells (tab_0.map (Value.int .u8)).toArray t frozen
   |o=>o}
theorem laid_met(os:Os):laidMet Tryd.prog Rows.assignWaysUptoRow.laid ((laidWorld os).forCall (fun _ _=>0) ⟨#[],#[.agg #[.int .u8 0,.int .u8 0,.int .u8 0,.slice none 0 0],.slice none 0 0],[]⟩).memory:=
 laidMet_of_run' 12 (by kernel_rfl) (by kernel_rfl)
theorem reads(os:Os){H:Type}(enc:TypeId×Value→H): ∃places,DataW.whole enc Tryd.prog ((laidWorld os).forCall (fun _ _=>0) ⟨#[],#[.agg #[.int .u8 0,.int .u8 0,.int .u8 0,.slice none 0 0],.slice none 0 0],[]⟩).memory Tryd.f4.params.toList Rows.assignWaysSpec.vars false (#[.agg #[.int .u8 0,.int .u8 0,.int .u8 0,.slice none 0 0],.slice none 0 0]:Array Value).toList 12=some ([.agg [.lit (.int .u8 0),.lit (.int .u8 0),.lit (.int .u8 0),.nil],.nil],[],places):=
 ⟨[],by kernel_rfl⟩
set_option maxRecDepth 100000 in
theorem lifted(os:Os)(started:os.Started)(H:Type)(enc:TypeId×Value→H)(F:Stop.Interp):
  ReturnsInHanded {} Tryd.checked os 4 .any ((Rows.OpenSpec.upto Rows.assignWaysSpec).preRow enc Tryd.prog Tryd.f4 Rows.assignWaysUptoRow.domain false Rows.assignWaysUptoRow.laid) (((Rows.OpenSpec.upto Rows.assignWaysSpec).at F).post enc Tryd.prog Tryd.f4 false true false false):=by
 obtain⟨places,hx⟩:=reads os enc
 refine returnsInHanded_of_row (C:=Tryd.checked) (s:=Rows.OpenSpec.upto Rows.assignWaysSpec) own started (by kernel_rfl) Tryd.func4
  (witness_row_at (enc:=enc) (C:=Tryd.checked) false (laidWorld os) #[.agg #[.int .u8 0,.int .u8 0,.int .u8 0,.slice none 0 0],.slice none 0 0] rfl (by kernel_rfl) (by kernel_rfl) (by kernel_rfl)
   (OpenSpec.preRow_of_cond 12 hx (by kernel_rfl) (fun k hk=>by cases hk;kernel_rfl) (by kernel_rfl) (laid_met os))) ?_
 intro W base args ds gs before hval hW _ hk _ hL _ _
 exact contract H enc W base args ds gs before hval hW (hk _ rfl) hL
set_option maxHeartbeats 20000000 in
theorem closed:joinedFacts Tryd.prog 4 Tryd.f4 (Rows.OpenSpec.upto Rows.assignWaysSpec).bare Rows.assignWaysUptoRow=true:=by
 unfold joinedFacts
 simp only[Bool.and_eq_true]
 repeat' refine And.intro ?_ ?_
 all_goals as_aux_lemma=>kernel_rfl
theorem over:Rows.assignWaysUptoRow.holds Tryd.pinned (Rows.OpenSpec.upto Rows.assignWaysSpec):=
 OpenClaim.holds_of_cond 4 Tryd.f4 rfl rfl rfl rfl rfl rfl rfl ⟨rfl,rfl,rfl,rfl,rfl⟩ rfl rfl rfl rfl rfl (by as_aux_lemma=>kernel_rfl) Tryd.func4 closed
  (of_decide_eq_true (by kernel_rfl)) (by unfold Func.isWrapper;first|(rw[if_pos (by decide+kernel)];kernel_rfl)|(rw[if_neg (by decide+kernel)];exact⟨rfl,rfl⟩))
  (fun os started H enc _ F=>by rw[OpenClaim.pre_eq_preRow];exact lifted os started H enc F)
theorem plain(f:FuncId)(fn:Func)(hf:Tryd.pinned.checked.prog.funcNamed Rows.assignWaysUptoRow.func=some f)(hfn:Tryd.pinned.checked.prog.funcs[f]?=some fn):
  false=Tryd.pinned.checked.prog.looks []∧ ∀(j:Nat) t,fn.params[j]?=some t→Tryd.pinned.checked.prog.wantsStandIn t=false:=by
 obtain rfl:f=4:=Option.some.inj ((show Tryd.prog.funcNamed Rows.assignWaysUptoRow.func=some 4 by kernel_rfl).symm.trans hf) |>.symm
 obtain rfl:fn=Tryd.f4:=(Option.some.inj (Tryd.func4.symm.trans hfn)).symm
 refine⟨by kernel_rfl,fun j t ht=>?_⟩
 rw[Tryd.params4] at ht
 have hm:=Array.mem_of_getElem? ht
 simp only[List.mem_toArray,List.mem_cons,List.not_mem_nil,or_false] at hm
 rcases hm with rfl|rfl
 ·exact(show Tryd.prog.wantsStandIn 48=false by kernel_rfl)
 ·exact(show Tryd.prog.wantsStandIn 49=false by kernel_rfl)
end Go.Proofs.YtjjdblcinoikeaaDoor.assignWays
namespace Go.Proofs.YtjjdblcinoikeaaDoor
theorem assignWays_holds:Rows.AssignWaysUptoCardSaid:=
 Claim7.holds_tied_plain_at .later [] _ _ _ _ assignWays.over (fun _ h=>by cases h) (by kernel_rfl) (fun _ h=>by cases h) assignWaysUpto_row_tie rfl ⟨rfl,rfl⟩ (by kernel_rfl) rfl assignWays.plain (by kernel_rfl)
#print axioms assignWays_holds
end Go.Proofs.YtjjdblcinoikeaaDoor
