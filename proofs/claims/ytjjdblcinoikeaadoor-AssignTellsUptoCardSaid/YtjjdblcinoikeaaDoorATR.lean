/- The law AssignTells: for every input of bulk at most 1048576 the call returns true and leaves its arguments as they were. -/
import Derived.Test.YtjjdblcinoikeaaDoorVL
import Derived.Test.YtjjdblcinoikeaaDoorRows
import Derived.WalkKit
import Derived.ProofKit
import Derived.OpenShut
import Derived.JoinedCond
import Derived.Carry
import Derived.Test.YtjjdblcinoikeaaDoorPSH
import Derived.Test.YtjjdblcinoikeaaDoorCards
import Derived.Test.YtjjdblcinoikeaaDoorTie
import Derived.Deep.DeepHandedRow
import Derived.Lib.LaidTab
set_option linter.unusedVariables false
set_option linter.unusedSimpArgs false
namespace Go.Proofs.YtjjdblcinoikeaaDoor.assignTells
open Go.ChangeShapes Go.WideShapes Go.ChangeAt Go.RowKit IL PL
open Go.ChangeMaps (open_string shut_string)
theorem own:ownKnob Tryd.prog.godebug=none:=by kernel_rfl
theorem laidOut:laidOutB Tryd.prog=true:=by kernel_rfl
theorem gTab : Tryd.prog.globalNamed "math/bits.deBruijn64tab" = some 0 := by kernel_rfl
theorem gTabType:(Tryd.prog.globals[0]?).map (·.type)=some 152:=by kernel_rfl
theorem cellsT:Tryd.prog.cellsOf 152=64:=by kernel_rfl
theorem cellsE:Tryd.prog.cellsOf 5=1:=by kernel_rfl
theorem tab_len:tab_0.length=64:=rfl
theorem table {W : World} (h : laidMetH Tryd.prog Rows.assignTellsUptoRow.laid W) : Lib.TabIs Tryd.prog W "math/bits.deBruijn64tab" .u8 tab_0 :=
 Lib.tabIs_of_head (rest:=[]) gTab gTabType Tryd.underlying152 Tryd.underlying5 cellsE cellsT h
theorem gok{W:World}(h:laidMetH Tryd.prog Rows.assignTellsUptoRow.laid W):GOk fun a x=>W.cell? a=some x:=by
 intro g rows e
 have e2:g=0∧rows=[tab_0.map (IV.int .u8)]:=by
  unfold gtab at e
  split at e
  ·rename_i h0
   exact⟨h0,(Option.some.inj e).symm⟩
  ·cases e
 obtain⟨rfl,rfl⟩:=e2
 have row1: ∀(r:Nat) (row:List IV),[tab_0.map (IV.int .u8)][r]?=some row→r=0∧row=tab_0.map (IV.int .u8):=by
  intro r row hr
  cases r with
  |zero=>exact⟨rfl,(Option.some.inj hr).symm⟩
  |succ r=>simp at hr
 refine⟨64,fun _ c=> .int .u8 (tab_0.getD c 0),fun r row hr=>?_,fun r row c v hr hv=>?_,fun J r row c v hr hv=>?_⟩
 ·obtain⟨rfl,rfl⟩:=row1 r row hr
  rw[List.length_map];exact tab_len
 ·obtain⟨rfl,rfl⟩:=row1 r row hr
  have hc:c<tab_0.length:=by
   have:=(List.getElem?_eq_some_iff.1 hv).1
   rwa [List.length_map] at this
  have e3:((⟨0,0,none⟩:Addr).add (0*64+c))=⟨0,c,none⟩:=by simp[Addr.add]<;>exact fun h=>h.symm
  rw[e3]
  exact(table h).cell gTab c hc
 ·obtain⟨rfl,rfl⟩:=row1 r row hr
  rw[List.getElem?_map,Option.map_eq_some_iff] at hv
  obtain⟨z,hz,rfl⟩:=hv
  have:tab_0.getD c 0=z:=by rw[List.getD_eq_getElem?_getD,hz];rfl
  show VR J _ (.int .u8 z) (.int .u8 (tab_0.getD c 0))
  rw[this]
  exact .int _ _
set_option maxRecDepth 100000 in
theorem contract(H:Type)(enc:TypeId×Value→H)(W:World)(base:Nat)(args:Array Value)(ds gs:List (DataW H))(before:List MemPlace)
  (hval: ∀(j:Nat) t v,Tryd.f3.params[j]?=some t→args[j]?=some v→Value.okWide Tryd.prog W .any base t v)
  (hW:DataW.Whole enc Tryd.prog Tryd.f3.params.toList Rows.assignTellsSpec.vars false W args.toList ds gs before) (hk:Rows.uptoSmall H (ds++gs)=true) (hL:laidMetH Tryd.prog Rows.assignTellsUptoRow.laid W):
  Calls Tryd.prog 3 args W fun e W'=> ∃v,e= .returned v∧Rows.assignTellsSpec.post enc Tryd.prog Tryd.f3 false true false false W args v W':=by
 have hW':=hW
 obtain⟨p,q,hA0,hV,rfl,hfz,hnd⟩:=hW
 have hA:DataW.TrodAll enc Tryd.prog W 0 (fun _=>true) true Tryd.f3.params.toList args.toList ds p:=hA0
 rw[Tryd.params3] at hA hval
 obtain⟨v0,vs0,d0,ds0,p0,q0,hargs,rfl,rfl,h0,r0⟩:=trodAll_cons hA
 obtain⟨v1,vs1,d1,ds1,p1,q1,rfl,rfl,rfl,h1,r1⟩:=trodAll_cons r0
 obtain⟨v2,vs2,d2,ds2,p2,q2,rfl,rfl,rfl,h2,r2⟩:=trodAll_cons r1
 obtain⟨rfl,rfl,rfl⟩:=trodAll_nil r2
 obtain rfl:args= #[v0,v1,v2]:=by cases args;simp_all
 obtain⟨rfl,rfl⟩:=trodVars_none hV
 have hb:Rows.uptoBulk d0+Rows.uptoBulk d1+Rows.uptoBulk d2≤1048576:=by
  have h:=of_decide_eq_true hk
  simp only[List.append_nil,Rows.uptoBulkAll] at h
  omega
 obtain⟨u0,rfl,_⟩:=okWide_struct Tryd.underlying26 (hval 0 26 v0 rfl rfl)
 have k0:=h0
 have lt0: ∀x∈p0,x.block<W.heap.size:=by obtain⟨m,hm⟩:=k0;exact DataW.trod_lt m _ _ _ hm
 obtain⟨fu0,hf0⟩:=h0
 obtain⟨iv0,a0,b0,c0⟩:=trod_iv 12 fu0 _ _ _ _ (by kernel_rfl) hf0
 obtain⟨x0,rfl,w0⟩:=sh_Fnc _ _ b0
 obtain⟨x1,rfl,rfl,rfl,w1⟩:=open_int Tryd.underlying3 (hval 1 3 v1 rfl rfl) h1
 obtain⟨x2,rfl,rfl,rfl,w2⟩:=open_int Tryd.underlying3 (hval 2 3 v2 rfl rfl) h2
 refine(law_calls (gok hL) (AssignTells_spec x0 w0 (by omega) x1 w1 x2 w2) (args3 (arg_agg a0) (.int _ _) (.int _ _))).mono fun e W' ⟨he,bel⟩=>?_
 subst he
 exact⟨_,rfl,_,_,_,[],_,[],hW',trodAll_mk1 (shut_bool Tryd.underlying4 _),(trodAll_cons_mk (Below.trod laidOut (by kernel_rfl) (of_decide_eq_true (by kernel_rfl)) k0 bel lt0) (trodAll_cons_mk (shut_int Tryd.underlying3 w1) (trodAll_cons_mk (shut_int Tryd.underlying3 w2) trodAll_mk0))),rfl,bel.frame _,fun h=>by cases h⟩
noncomputable def laidWorld(os:Os):World:=
 {World.holding Tryd.prog os ⟨#[],#[],[]⟩ with heap:=(World.holding Tryd.prog os ⟨#[],#[],[]⟩).heap.modify 0 fun
   | .cells _ t frozen=> .cells (tab_0.map (Value.int .u8)).toArray t frozen
   |o=>o}
theorem laid_met(os:Os):laidMet Tryd.prog Rows.assignTellsUptoRow.laid ((laidWorld os).forCall (fun _ _=>0) ⟨#[],#[.agg #[.bool false,.string ByteArray.empty,.slice none 0 0,.slice none 0 0,.slice none 0 0],.int .i64 0,.int .i64 0],[]⟩).memory:=
 laidMet_of_run' 12 (by kernel_rfl) (by kernel_rfl)
theorem reads(os:Os){H:Type}(enc:TypeId×Value→H): ∃places,DataW.whole enc Tryd.prog ((laidWorld os).forCall (fun _ _=>0) ⟨#[],#[.agg #[.bool false,.string ByteArray.empty,.slice none 0 0,.slice none 0 0,.slice none 0 0],.int .i64 0,.int .i64 0],[]⟩).memory Tryd.f3.params.toList Rows.assignTellsSpec.vars false (#[.agg #[.bool false,.string ByteArray.empty,.slice none 0 0,.slice none 0 0,.slice none 0 0],.int .i64 0,.int .i64 0]:Array Value).toList 12=some ([.agg [.lit (.bool false),.lit (.string []),.nil,.nil,.nil],.lit (.int .i64 0),.lit (.int .i64 0)],[],places):=
 ⟨[],by kernel_rfl⟩
set_option maxRecDepth 100000 in
theorem lifted(os:Os)(started:os.Started)(H:Type)(enc:TypeId×Value→H)(F:Stop.Interp):
  ReturnsInHanded {} Tryd.checked os 3 .any ((Rows.OpenSpec.upto Rows.assignTellsSpec).preRow enc Tryd.prog Tryd.f3 Rows.assignTellsUptoRow.domain false Rows.assignTellsUptoRow.laid) (((Rows.OpenSpec.upto Rows.assignTellsSpec).at F).post enc Tryd.prog Tryd.f3 false true false false):=by
 obtain⟨places,hx⟩:=reads os enc
 refine returnsInHanded_of_row (C:=Tryd.checked) (s:=Rows.OpenSpec.upto Rows.assignTellsSpec) own started (by kernel_rfl) Tryd.func3
  (witness_row_at (enc:=enc) (C:=Tryd.checked) false (laidWorld os) #[.agg #[.bool false,.string ByteArray.empty,.slice none 0 0,.slice none 0 0,.slice none 0 0],.int .i64 0,.int .i64 0] rfl (by kernel_rfl) (by kernel_rfl) (by kernel_rfl)
   (OpenSpec.preRow_of_cond 12 hx (by kernel_rfl) (fun k hk=>by cases hk;kernel_rfl) (by kernel_rfl) (laid_met os))) ?_
 intro W base args ds gs before hval hW _ hk _ hL _ _
 exact contract H enc W base args ds gs before hval hW (hk _ rfl) hL
set_option maxHeartbeats 20000000 in
theorem closed:joinedFacts Tryd.prog 3 Tryd.f3 (Rows.OpenSpec.upto Rows.assignTellsSpec).bare Rows.assignTellsUptoRow=true:=by
 unfold joinedFacts
 simp only[Bool.and_eq_true]
 repeat' refine And.intro ?_ ?_
 all_goals as_aux_lemma=>kernel_rfl
theorem over:Rows.assignTellsUptoRow.holds Tryd.pinned (Rows.OpenSpec.upto Rows.assignTellsSpec):=
 OpenClaim.holds_of_cond 3 Tryd.f3 rfl rfl rfl rfl rfl rfl rfl ⟨rfl,rfl,rfl,rfl,rfl⟩ rfl rfl rfl rfl rfl (by as_aux_lemma=>kernel_rfl) Tryd.func3 closed
  (of_decide_eq_true (by kernel_rfl)) (by unfold Func.isWrapper;first|(rw[if_pos (by decide+kernel)];kernel_rfl)|(rw[if_neg (by decide+kernel)];exact⟨rfl,rfl⟩))
  (fun os started H enc _ F=>by rw[OpenClaim.pre_eq_preRow];exact lifted os started H enc F)
theorem plain(f:FuncId)(fn:Func)(hf:Tryd.pinned.checked.prog.funcNamed Rows.assignTellsUptoRow.func=some f)(hfn:Tryd.pinned.checked.prog.funcs[f]?=some fn):
  false=Tryd.pinned.checked.prog.looks []∧ ∀(j:Nat) t,fn.params[j]?=some t→Tryd.pinned.checked.prog.wantsStandIn t=false:=by
 obtain rfl:f=3:=Option.some.inj ((show Tryd.prog.funcNamed Rows.assignTellsUptoRow.func=some 3 by kernel_rfl).symm.trans hf) |>.symm
 obtain rfl:fn=Tryd.f3:=(Option.some.inj (Tryd.func3.symm.trans hfn)).symm
 refine⟨by kernel_rfl,fun j t ht=>?_⟩
 rw[Tryd.params3] at ht
 have hm:=Array.mem_of_getElem? ht
 simp only[List.mem_toArray,List.mem_cons,List.not_mem_nil,or_false] at hm
 rcases hm with rfl|rfl|rfl
 ·exact(show Tryd.prog.wantsStandIn 26=false by kernel_rfl)
 ·exact(show Tryd.prog.wantsStandIn 3=false by kernel_rfl)
 ·exact(show Tryd.prog.wantsStandIn 3=false by kernel_rfl)
end Go.Proofs.YtjjdblcinoikeaaDoor.assignTells
namespace Go.Proofs.YtjjdblcinoikeaaDoor
theorem assignTells_holds:Rows.AssignTellsUptoCardSaid:=
 Claim7.holds_tied_plain_at .later [] _ _ _ _ assignTells.over (fun _ h=>by cases h) (by kernel_rfl) (fun _ h=>by cases h) assignTellsUpto_row_tie rfl ⟨rfl,rfl⟩ (by kernel_rfl) rfl assignTells.plain (by kernel_rfl)
#print axioms assignTells_holds
end Go.Proofs.YtjjdblcinoikeaaDoor
