/- The ideal logic, part 20: a loop over a function. Nothing here speaks of a given program. -/
import Derived.Test.YtoojnagdenoknaaIL19
import Derived.RangeFuncNested
set_option linter.unusedSectionVars false
set_option linter.unnecessarySimpa false
set_option linter.unusedVariables false
set_option linter.unusedSimpArgs false
namespace Go.Proofs.Ytoojnagdenoknaa.IL
open Go Go.RowKit
def rangeK(P:Program)(id:Id)(s:LS)(Q:Exit→Fr→Heap→Prop)(a:Fr)(H:Heap):Prop:=
 (H.loop id=some (s.at .ready)∧Q .normal a (H.close id))∨ ∃c,H.loop id=some (s.at (.done c))∧W P c Q a (H.close id)
theorem alloc_rel{J:Inj}{S:Sure}{H:Heap}{w:World}(hH:RelH J S H w)(o:Obj):RelH J S H (w.alloc o)∧Ext J S H w J S H (w.alloc o):=by
 refine fresh_rel hH (fun a v h=>?_) (fun _ _ h=>h) (fun _ _ h=> .inl h) (fun k hk=>Below.heap_alloc w o k hk) (by simp) rfl rfl rfl
 have h1:=(hH.sure a v h).1
 rw[yT (Below.heap_alloc w o _ (kno_lt h1))]
 exact h1
theorem W_range{P:Program}{Q:Exit→Fr→Heap→Prop}{a:Fr}{H:Heap}{g:Operand}{ps:Array Tmp}{asg body:Code}(k:Nat){gf:FuncId}{fs lb:List IV}(hg:a.ev g= .fn (.func gf) fs lb)
  (hc:CallW P gf (fs++ .yld (H.fresh k)::lb) (H.open_ k ⟨a,ps,asg,body,.ready⟩) fun _ H'=>rangeK P (H.fresh k) ⟨a,ps,asg,body,.ready⟩ Q a H'):W P (.rangeFunc g ps asg body) Q a H:=by
 intro B ro J S ra w hF hH hO
 have hv:=hF.ev g
 rw[hg] at hv
 generalize hu:ra.eval g=u at hv
 obtain⟨fv,cs,rfl,hfv,hcs⟩: ∃fv cs,u= .func (.func gf) fv cs∧VRs J S fs fv∧VRs J S lb cs:=by
  cases hv with
  |fn h1 h2 hV1 hV2=>
   rename_i fv cs
   exact⟨fv,cs,rfl,⟨h1,hV1⟩,h2,hV2⟩
 obtain⟨fn,hfn,hb,hname⟩:=hc.1
 have hn : ¬ (fn.name = "runtime.NumGoroutine") := by simpa using hname
 have hb': ¬(fn.body=none):=by intro h;simp[h] at hb
 have eg: ∀(args:Array Value) (w:World),(callFunc gf args).run P w= .ok (.enter gf args) w:=by
  intro args w;simp[callFunc,hfn,hb',hn]
 have core: ∀(w1:World) (mark:List Deferred) (r:Loop),RelH J S H w1→Ext J S H w J S H w1→Okr B ro (mark++ra.defers) w1→r.tmps=ra.tmps→r.params=ps→r.assign=asg→r.body=body→r.state= .ready→r.pending=none→
   CallsIn (FX ro) 0 P gf (fv++ #[.func (.yield w1.heap.size) #[] #[]]++cs) (w1.alloc (.loop r)) (rangePost (FX ro) 0 P w1.heap.size (Post B ro Q J S H w) {ra with defers:=mark++ra.defers}):=by
  intro w1 mark r hH1 hE1 hO1 e1 e2 e3 e4 e5 e6
  obtain⟨J',hJ',hH',hE'⟩:=rel_open hH1 k r ⟨a,ps,asg,body,.ready⟩ ⟨e2,e3,e4,⟨hF.glob,by rw[e1];exact hF.size,fun t=>by rw[e1];exact hF.val t⟩,e5,e6⟩
  have ha:VRs J' S (fs++ .yld (H.fresh k)::lb) (fv++ #[.func (.yield w1.heap.size) #[] #[]]++cs):=by
   have h1:VRs J' S [.yld (H.fresh k)] #[.func (.yield w1.heap.size) #[] #[]]:=by
    refine⟨rfl,fun q v u h1 h2=>?_⟩
    cases q with
    |zero=>simp at h1 h2;subst h1;subst h2;exact .yld (L:=⟨w1.heap.size,0,0,0,false⟩) hJ'
    |succ q=>simp at h1
   rw[Array.append_assoc]
   exact(hfv.mono hE'.hJ hE'.hS).append (h1.append (hcs.mono hE'.hJ hE'.hS))
  refine callsIn_FX ((hc.2 J' S _ _ hF.glob hH' ha).mono ?_)
  rintro e w3 ⟨J2,S2,u,v,H2,rfl,hK,hvr,hH2,hE2⟩
  have hJ2:=hE2.hJ _ _ hJ'
  have hEa:=hE1.trans (hE'.trans hE2)
  have fin: ∀st,H2.loop (H.fresh k)=some ((⟨a,ps,asg,body,.ready⟩:LS).at st)→st≠ .busy→ ∃r3:Loop,w3.heap[w1.heap.size]?=some (.loop r3)∧st.is r3∧
    RelH J2 S2 (H2.close (H.fresh k)) (w3.putObj w1.heap.size (.loop {r3 with state:= .exhausted}))∧Ext J S H w J2 S2 (H2.close (H.fresh k)) (w3.putObj w1.heap.size (.loop {r3 with state:= .exhausted}))∧
    Okr B ro (mark++ra.defers) (w3.putObj w1.heap.size (.loop {r3 with state:= .exhausted})):=by
   intro st hs hst
   obtain⟨L3,hL3,hat⟩:=hH2.lps _ _ hs
   rw[hJ2] at hL3;cases hL3
   obtain⟨r3,hr3,k1,k2,k3,k4,k5⟩:=hat.rec_
   obtain⟨x1,x2⟩:=rel_close hH2 (L:=⟨w1.heap.size,0,0,0,false⟩) {r3 with state:= .exhausted} hs hJ2 hr3
   exact⟨r3,hr3,k5,x1,hEa.trans x2,((hO1.ext hH1 hE').ext hH' hE2).ext hH2 x2⟩
  have hFm:RelF J2 S2 a {ra with defers:=mark++ra.defers}:=by
   have h0:RelF J S a {ra with defers:=mark++ra.defers}:=⟨hF.glob,hF.size,hF.val⟩
   exact h0.mono hEa.hJ hEa.hS
  rcases hK with ⟨hs,hq⟩|⟨c,hs,hW⟩
  ·obtain⟨r3,hr3,hst,x1,x2,x3⟩:=fin .ready hs (by intro h;cases h)
   refine⟨none,_,?_,J2,S2,a,_,hq,hFm,x1,x2,x3⟩
   rw[run_endLoop hr3 (by rw[hst.1];simp),hst.2]
  ·obtain⟨r3,hr3,hst,x1,x2,x3⟩:=fin (.done c) hs (by intro h;cases h)
   refine⟨some c,_,?_,wpIn_mono (hW B ro J2 S2 _ _ hFm x1 x3) ?_⟩
   ·rw[run_endLoop hr3 (by rw[hst.1];simp),hst.2]
   ·rintro e a4 w4 ⟨J4,S4,a5,H4,q,f4,h4,e4',o4⟩
    exact⟨J4,S4,a5,H4,q,f4,h4,x2.trans e4',o4⟩
 refine wpIn_rangeFunc ?_
 intro fnid _
 cases ro with
 |none=>
  obtain⟨h1,h2⟩:=alloc_rel hH (.deferred (some []))
  have hsz:(w.alloc (.deferred (some []))).heap.size=w.heap.size+1:=by simp
  refine⟨w.heap.size+1,[{target:= .collected w.heap.size,args:= #[]}],(w.alloc (.deferred (some []))).alloc (.loop {state:= .ready,pending:=none,fn:=fnid,tmps:=ra.tmps,params:=ps,assign:=asg,body:=body,defers:=w.heap.size}),{target:= .fn (.func gf) cs,args:=fv++ #[.func (.yield (w.heap.size+1)) #[] #[]]},(w.alloc (.deferred (some []))).alloc (.loop {state:= .ready,pending:=none,fn:=fnid,tmps:=ra.tmps,params:=ps,assign:=asg,body:=body,defers:=w.heap.size}),gf,fv++ #[.func (.yield (w.heap.size+1)) #[] #[]]++cs,(w.alloc (.deferred (some []))).alloc (.loop {state:= .ready,pending:=none,fn:=fnid,tmps:=ra.tmps,params:=ps,assign:=asg,body:=body,defers:=w.heap.size}),run_enterLoop_outer _ _ _ _ _,?_,fun _ _=>trivial,?_,FX_depth,?_⟩
  ·simp only[resolve,hu]
   simp[go_sem]
  ·simp[invoke,go_sem,eg]
  ·have:=core (w.alloc (.deferred (some []))) [{target:= .collected w.heap.size,args:= #[]}] {state:= .ready,pending:=none,fn:=fnid,tmps:=ra.tmps,params:=ps,assign:=asg,body:=body,defers:=w.heap.size} h1 h2 ?_ rfl rfl rfl rfl rfl rfl
   ·rw[hsz] at this
    exact this
   ·have hO2:=hO.ext hH h2
    refine⟨?_,?_,hO2.round,hO2.base⟩
    ·intro d hd
     rcases List.mem_append.1 hd with hd|hd
     ·have:=List.mem_singleton.1 hd
      subst this
      exact⟨w.heap.size,rfl,hO.base,World.alloc_heap_new w _⟩
     ·exact hO2.marks d hd
    ·refine List.nodup_append.2 ⟨by simp,hO.nodup,?_⟩
     intro d hd e he
     have:=List.mem_singleton.1 hd
     subst this
     obtain⟨D,rfl,_,h3⟩:=hO.marks e he
     intro h
     have:w.heap.size=D:=by injection h with h1 h2;injection h1
     have:=(Array.getElem?_eq_some_iff.1 h3).1
     omega
 |some l0=>
  obtain⟨r0,hr0⟩:=hO.round l0 rfl
  refine⟨w.heap.size,[],w.alloc (.loop {state:= .ready,pending:=none,fn:=fnid,tmps:=ra.tmps,params:=ps,assign:=asg,body:=body,defers:=r0.defers}),{target:= .fn (.func gf) cs,args:=fv++ #[.func (.yield w.heap.size) #[] #[]]},w.alloc (.loop {state:= .ready,pending:=none,fn:=fnid,tmps:=ra.tmps,params:=ps,assign:=asg,body:=body,defers:=r0.defers}),gf,fv++ #[.func (.yield w.heap.size) #[] #[]]++cs,w.alloc (.loop {state:= .ready,pending:=none,fn:=fnid,tmps:=ra.tmps,params:=ps,assign:=asg,body:=body,defers:=r0.defers}),run_enterLoop_inner hr0 _ _ _ _ _,?_,fun _ _=>trivial,?_,FX_depth,?_⟩
  ·simp only[resolve,hu]
   simp[go_sem]
  ·simp[invoke,go_sem,eg]
  ·exact core w [] {state:= .ready,pending:=none,fn:=fnid,tmps:=ra.tmps,params:=ps,assign:=asg,body:=body,defers:=r0.defers} hH .refl hO rfl rfl rfl rfl rfl rfl
@[simp] theorem setl_get (H:Heap) (id:Id) (s:LS) (j:Id):(H.setl id s).get j=H.get j:=rfl
@[simp] theorem setl_loop (H:Heap) (id:Id) (s:LS) (j:Id):(H.setl id s).loop j=if j=id then some s else H.loop j:=rfl
@[simp] theorem open_get (H:Heap) (k:Nat) (s:LS) (j:Id):(H.open_ k s).get j=H.get j:=rfl
@[simp] theorem open_loop (H:Heap) (k:Nat) (s:LS) (j:Id):(H.open_ k s).loop j=if j=H.fresh k then some s else H.loop j:=rfl
@[simp] theorem close_get (H:Heap) (id:Id) (j:Id):(H.close id).get j=H.get j:=rfl
@[simp] theorem close_loop (H:Heap) (id:Id) (j:Id):(H.close id).loop j=if j=id then none else H.loop j:=rfl
@[simp] theorem put_loop (H:Heap) (id:Id) (b:Blk):(H.put id b).loop=H.loop:=rfl
@[simp] theorem del_loop (H:Heap) (id:Id):(H.del id).loop=H.loop:=rfl
@[simp] theorem new_loop (H:Heap) (k:Nat) (b:Blk):(H.new k b).loop=H.loop:=rfl
end Go.Proofs.Ytoojnagdenoknaa.IL
