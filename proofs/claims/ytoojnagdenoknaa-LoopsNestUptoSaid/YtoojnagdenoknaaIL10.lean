/- The ideal logic, part 10: contracts, code, and calls. Nothing here speaks of a given program. -/
import Derived.Test.YtoojnagdenoknaaIL9
import Derived.Scope
import Derived.Orders
import Derived.OrdersIn
import Derived.TacticsIn
import Derived.RangeFuncLeaves
import Derived.RangeFuncRecord
import Derived.RangeFuncNested
import Derived.Deep.LoopGhost
set_option linter.unusedSectionVars false
set_option linter.unnecessarySimpa false
set_option linter.unusedVariables false
set_option linter.unusedSimpArgs false
namespace Go.Proofs.Ytoojnagdenoknaa.IL
open Go Go.RowKit
def Callable (P : Program) (f : FuncId) : Prop := ∃ fn, P.funcs[f]? = some fn ∧ fn.body.isNone = false ∧ (fn.name == "runtime.NumGoroutine") = false
def CallW(P:Program)(f:FuncId)(args:List IV)(H:Heap)(K:IV→Heap→Prop):Prop:=
 Callable P f∧ ∀(J:Inj) (S:Sure) (w:World) (us:Array Value),GOk S→RelH J S H w→VRs J S args us→
  Calls P f us w fun e w'=> ∃J' S' u v H',e= .returned u∧K v H'∧VR J' S' v u∧RelH J' S' H' w'∧Ext J S H w J' S' H' w'
def closed(v:IV):Prop:= ∀J S u,VR J S v u→VR (fun _=>none) S v u
def PCall(P:Program)(f:FuncId)(args:List IV)(K:IV→Prop):Prop:=
 Callable P f∧(∀v∈args,closed v)∧ ∀(S:Sure) (w:World) (us:Array Value),GOk S→(∀a v,S a v→kno w a=some v)→VRs (fun _=>none) S args us→
  Calls P f us w fun e w'=> ∃S' u v,e= .returned u∧K v∧VR (fun _=>none) S' v u∧(∀a v,S' a v→kno w' a=some v)∧Ext (fun _=>none) S (.nil fun _=>0) w (fun _=>none) S' (.nil fun _=>0) w'
def Pure1(P:Program)(f:FuncId)(args:List IV)(v:IV):Prop:=PCall P f args (· =v)
def Heap.over(H H1 H1':Heap):Heap:={get:=fun id=>match H1'.get id with|some b=>some b|none=>match H1.get id with|some _=>none|none=>H.get id,next:=H1'.next,loop:=H.loop}
theorem has_sub{H H1:Heap}(hsub: ∀id b,H1.get id=some b→H.get id=some b)(hl: ∀id,H1.loop id=none){id:Id}(h:H1.has id): ∃b,H.get id=some b∧H1.get id=some b:=by
 rcases h with ⟨b,hb⟩|⟨s,hs⟩
 ·exact⟨b,hsub _ _ hb,hb⟩
 ·rw[hl] at hs;cases hs
theorem frame_rel{J:Inj}{S:Sure}{H H1:Heap}{w:World}(hH:RelH J S H w)(hsub: ∀id b,H1.get id=some b→H.get id=some b)(hn:H1.next=H.next)(hl: ∀id,H1.loop id=none:=by intro _;rfl):RelH J S H1 w:=by
 have hb1: ∀{id},H1.has id→H.has id:=fun h=>by obtain⟨b,h,_⟩:=has_sub hsub hl h;exact .inl ⟨b,h⟩
 refine⟨fun id b hb=>hH.blk id b (hsub id b hb),fun id id' L L' hb hb'=>hH.inj id id' L L' (hb1 hb) (hb1 hb'),fun a v hs=>⟨(hH.sure a v hs).1,?_⟩,?_,fun id s hs=>(by rw[hl] at hs;cases hs)⟩
 ·rintro⟨id,L,hb,hL,hk⟩
  exact(hH.sure a v hs).2 ⟨id,L,hb1 hb,hL,hk⟩
 ·rw[hn];exact hH.next
theorem frame_back{J J':Inj}{S S':Sure}{H H1 H1':Heap}{w w':World}(hH:RelH J S H w)(hsub: ∀id b,H1.get id=some b→H.get id=some b)(hn:H1.next=H.next)
  (h1:RelH J' S' H1' w') (he:Ext J S H1 w J' S' H1' w') (hl: ∀id,H1.loop id=none:=by intro _;rfl):RelH J' S' (H.over H1 H1') w'∧Ext J S H w J' S' (H.over H1 H1') w':=by
 have hget: ∀id b,(H.over H1 H1').get id=some b→H1'.get id=some b∨(H1'.get id=none∧H1.get id=none∧H.get id=some b):=by
  intro id b hb
  simp only[Heap.over] at hb
  split at hb
  ·rename_i c hc;cases hb;exact .inl hc
  ·rename_i hc
   split at hb
   ·cases hb
   ·rename_i hd;exact .inr ⟨hc,hd,hb⟩
 have hlone: ∀id s,H.loop id=some s→H1.get id=none:=by
  intro id s hs
  cases hc:H1.get id with
  |none=>rfl
  |some c=>
   obtain⟨L,hL,_⟩:=hH.lps id s hs
   exact absurd rfl (hH.apart (hsub _ _ hc) hL hs hL)
 have hov: ∀id,(H.over H1 H1').has id→(∃b,H1'.get id=some b)∨(H.has id∧H1.get id=none):=by
  rintro id (⟨b,hb⟩|⟨s,hs⟩)
  ·rcases hget id b hb with h|⟨_,h2,h3⟩
   ·exact .inl ⟨b,h⟩
   ·exact .inr ⟨.inl ⟨b,h3⟩,h2⟩
  ·exact .inr ⟨.inr ⟨s,hs⟩,hlone id s hs⟩
 have hrest: ∀id,H1.get id=none→H.has id→ ∃L,J id=some L∧J' id=some L∧L.rb<w.heap.size∧ ¬Owns J H1 L.rb∧w'.heap[L.rb]?=w.heap[L.rb]?:=by
  intro id h0 hb
  obtain⟨L,hL⟩: ∃L,J id=some L:=by
   rcases hb with ⟨b,hb⟩|⟨s,hs⟩
   ·obtain⟨L,hL,_⟩:=hH.blk id b hb;exact⟨L,hL⟩
   ·obtain⟨L,hL,_⟩:=hH.lps id s hs;exact⟨L,hL⟩
  have hlt:=hH.hlt hb hL
  have hno: ¬Owns J H1 L.rb:=by
   rintro⟨i,M,hB,hM,hk⟩
   obtain⟨B,hB1,hB2⟩:=has_sub hsub hl hB
   have:=hH.inj i id M L (.inl ⟨B,hB1⟩) hb hM hL hk
   subst this
   rw[h0] at hB2;cases hB2
  exact⟨L,hL,he.hJ id L hL,hlt,hno,he.keep _ hlt hno⟩
 have hownOld: ∀id L,(∃b,H1'.get id=some b)→J' id=some L→Owns J H1 L.rb∨w.heap.size≤L.rb:=fun id L hb hL=>he.own _ ⟨id,L,.inl hb,hL,rfl⟩
 have hb1: ∀{id},H1.has id→H.has id:=fun h=>by obtain⟨b,h,_⟩:=has_sub hsub hl h;exact .inl ⟨b,h⟩
 constructor
 ·refine⟨fun id b hb=>?_,fun id id' L L' hb hb' hL hL' hr=>?_,fun a v hs=>⟨(h1.sure a v hs).1,?_⟩,?_,fun id s hs=>?_⟩
  ·rcases hget id b hb with hb|⟨_,h0,hb⟩
   ·exact h1.blk id b hb
   ·obtain⟨L,hL,hL',hlt,hno,hk⟩:=hrest id h0 (.inl ⟨b,hb⟩)
    obtain⟨L0,hL0,hat⟩:=hH.blk id b hb
    rw[hL] at hL0;cases hL0
    exact⟨L,hL',(hat.heap hk).mono he.hJ he.hS⟩
  ·rcases hov id hb with hb|⟨hb,h0⟩<;>rcases hov id' hb' with hb'|⟨hb',h0'⟩
   ·exact h1.inj id id' L L' (.inl hb) (.inl hb') hL hL' hr
   ·obtain⟨M,hM,hM',hlt,hno,hk⟩:=hrest id' h0' hb'
    rw[hL'] at hM';cases hM'
    rcases hownOld id L hb hL with h2|h2
    ·exact absurd (hr▸h2) hno
    ·rw[hr] at h2;omega
   ·obtain⟨M,hM,hM',hlt,hno,hk⟩:=hrest id h0 hb
    rw[hL] at hM';cases hM'
    rcases hownOld id' L' hb' hL' with h2|h2
    ·exact absurd (hr▸h2) hno
    ·rw[←hr] at h2;omega
   ·obtain⟨M,hM,hM',hlt,hno,hk⟩:=hrest id h0 hb
    obtain⟨M2,hM2,hM2',hlt2,hno2,hk2⟩:=hrest id' h0' hb'
    rw[hL] at hM';cases hM'
    rw[hL'] at hM2';cases hM2'
    exact hH.inj id id' L L' hb hb' hM hM2 hr
  ·rintro⟨id,L,hb,hL,hk⟩
   rcases hov id hb with hb|⟨hb,h0⟩
   ·exact(h1.sure a v hs).2 ⟨id,L,.inl hb,hL,hk⟩
   ·obtain⟨M,hM,hM',hlt,hno,hkk⟩:=hrest id h0 hb
    rw[hL] at hM';cases hM'
    rcases he.snew a v hs with h2|h2|h2
    ·exact(hH.sure a v h2).2 ⟨id,L,hb,hM,hk⟩
    ·rw[hk] at hno;exact hno h2
    ·omega
  ·exact h1.next
  ·obtain⟨L,hL,hL',hlt,hno,hk⟩:=hrest id (hlone id s hs) (.inr ⟨s,hs⟩)
   obtain⟨L0,hL0,hat⟩:=hH.lps id s hs
   rw[hL] at hL0;cases hL0
   exact⟨L,hL',(hat.heap hk).mono he.hJ he.hS⟩
 ·refine⟨he.hJ,he.hS,fun a v hs=>?_,fun k hk=>?_,fun k hk ho=>he.keep k hk (fun h2=>ho ?_),he.size,he.os,he.tape,he.output,fun k=>by have:=he.next k;rw[hn] at this;exact this,he.lp⟩
  ·rcases he.snew a v hs with h2|⟨id,L,hb,hL,hk⟩|h2
   ·exact .inl h2
   ·exact .inr (.inl ⟨id,L,hb1 hb,hL,hk⟩)
   ·exact .inr (.inr h2)
  ·obtain⟨id,L,hb,hL,hkk⟩:=hk
   rcases hov id hb with hb|⟨hb,h0⟩
   ·rcases hownOld id L hb hL with ⟨i,M,hB,hM,hr⟩|h2
    ·exact .inl ⟨i,M,hb1 hB,hM,hr.trans hkk⟩
    ·right;omega
   ·obtain⟨M,hM,hM',hlt,hno,hkk2⟩:=hrest id h0 hb
    rw[hL] at hM';cases hM'
    exact .inl ⟨id,L,hb,hM,hkk⟩
  ·obtain⟨id,L,hb,hL,hkk⟩:=h2
   exact⟨id,L,hb1 hb,hL,hkk⟩
theorem CallW.frame{P:Program}{f:FuncId}{args:List IV}{H H1:Heap}{K:IV→Heap→Prop}(h:CallW P f args H1 K)(hsub: ∀id b,H1.get id=some b→H.get id=some b)(hn:H1.next=H.next)(hl: ∀id,H1.loop id=none:=by intro _;rfl):
  CallW P f args H fun v H'=> ∃H1',K v H1'∧H'=H.over H1 H1':=by
 refine⟨h.1,fun J S w us hG hH ha=>?_⟩
 refine(h.2 J S w us hG (frame_rel hH hsub hn hl) ha).mono ?_
 rintro e w' ⟨J',S',u,v,H1',he,hK,hv,h1,hE⟩
 obtain⟨r1,r2⟩:=frame_back hH hsub hn h1 hE hl
 exact⟨J',S',u,v,_,he,⟨H1',hK,rfl⟩,hv,r1,r2⟩
theorem CallW.mono{P:Program}{f:FuncId}{args:List IV}{H:Heap}{K K':IV→Heap→Prop}(h:CallW P f args H K)(hk: ∀v H',K v H'→K' v H'):CallW P f args H K':=
 ⟨h.1,fun J S w us hG hH ha=>(h.2 J S w us hG hH ha).mono fun e w' ⟨J',S',u,v,H',he,hK,r⟩=>⟨J',S',u,v,H',he,hk _ _ hK,r⟩⟩
theorem yR{J:Inj}{N:Nat→Nat}{k:Nat}: ¬Owns J (.nil N) k:=by
 rintro⟨id,L,⟨b,hb⟩|⟨s,hs⟩,_⟩
 ·cases hb
 ·cases hs
theorem fresh_rel{J:Inj}{S S':Sure}{H:Heap}{w w':World}(hH:RelH J S H w)(hs: ∀a v,S' a v→kno w' a=some v)(hS: ∀a v,S a v→S' a v)(hn: ∀a v,S' a v→S a v∨w.heap.size≤a.blk)
  (hk: ∀k,k<w.heap.size→w'.heap[k]?=w.heap[k]?) (hz:w.heap.size≤w'.heap.size) (h1:w'.os=w.os) (h2:w'.tape=w.tape) (h3:w'.output=w.output):RelH J S' H w'∧Ext J S H w J S' H w':=by
 refine⟨⟨fun id b hb=>?_,hH.inj,fun a v h=>⟨hs a v h,?_⟩,hH.next,fun id s hs2=>?_⟩,⟨fun _ _ h=>h,hS,fun a v h=>?_,fun b hb=> .inl hb,fun k hlt _=>hk k hlt,hz,h1,h2,h3,fun _=>Nat.le_refl _,fun k r h=>⟨r,(hk k (Array.getElem?_eq_some_iff.1 h).1).trans h⟩⟩⟩
 ·obtain⟨L,hL,hat⟩:=hH.blk id b hb
  exact⟨L,hL,(hat.heap (hk _ (hH.lt hb hL))).mono (fun _ _ h=>h) hS⟩
 ·rintro⟨id,L,hb,hL,hr⟩
  rcases hn a v h with h|h
  ·exact(hH.sure a v h).2 ⟨id,L,hb,hL,hr⟩
  ·have:=hH.hlt hb hL;omega
 ·obtain⟨L,hL,hat⟩:=hH.lps id s hs2
  exact⟨L,hL,(hat.heap (hk _ (hH.hlt (.inr ⟨s,hs2⟩) hL))).mono (fun _ _ h=>h) hS⟩
 ·rcases hn a v h with h|h
  ·exact .inl h
  ·exact .inr (.inr h)
theorem PCall.at{P:Program}{f:FuncId}{args:List IV}{K:IV→Prop}(h:PCall P f args K)(H:Heap):CallW P f args H fun v H'=>K v∧H'=H:=by
 obtain⟨hc,hcl,h⟩:=h
 refine⟨hc,fun J S w us hG hH ha=>?_⟩
 have ha':VRs (fun _=>none) S args us:=⟨ha.1,fun k v u hv hu=>hcl v (List.mem_of_getElem? hv) J S u (ha.2 k v u hv hu)⟩
 refine(h S w us hG (fun a v hs=>(hH.sure a v hs).1) ha').mono ?_
 rintro e w' ⟨S',u,v,he,hK,hv,hs,hE⟩
 obtain⟨r1,r2⟩:=fresh_rel hH hs hE.hS (fun a v h=>by
  rcases hE.snew a v h with h|h|h
  ·exact .inl h
  ·exact absurd h yR
  ·exact .inr h) (fun k hk=>hE.keep k hk yR) hE.size hE.os hE.tape hE.output
 exact⟨J,S',u,v,H,he,⟨hK,rfl⟩,hv.mono (fun _ _ h=>by cases h) (fun _ _ h=>h),r1,r2⟩
def FX(ro:Option Nat):Fence:={fn:=fun _=>True,depth:=none,alive:=false,round:=ro}
theorem FX_depth{ro:Option Nat}:(FX ro).depth.isSome=true→1≤0:=fun h=>by simp[FX] at h
theorem callsIn_FX{ro:Option Nat}{n:Nat}{P:Program}{f:FuncId}{us:Array Value}{w:World}{R:Ending→World→Prop}(h:Calls P f us w R):CallsIn (FX ro) n P f us w R:=by
 have h1:=(callsIn_wide (n:=n)).2 h
 exact⟨trivial,fun cs _=>h1.2 cs (room_wide _)⟩
theorem calls_FX{n:Nat}{P:Program}{f:FuncId}{us:Array Value}{w:World}{R:Ending→World→Prop}(h:CallsIn (FX none) n P f us w R):Calls P f us w R:=callsIn_wide.1 h
structure Okr (B:Nat) (ro:Option Nat) (ds:List Deferred) (w:World):Prop where
 marks: ∀d∈ds,∃D,d={target:= .collected D,args:= #[]}∧B≤D∧w.heap[D]?=some (.deferred (some []))
 nodup:ds.Nodup
 round: ∀l,ro=some l→ ∃r,w.heap[l]?=some (.loop r)
 base:B≤w.heap.size
def notLoop:Obj→Prop
 | .loop _=>False
 | .map _ _=>False
 |_=>True
theorem not_own{J:Inj}{S:Sure}{H:Heap}{w:World}(hH:RelH J S H w){k:Nat}{o:Obj}(h:w.heap[k]?=some o)(hc:o.isCells=false)(hl:notLoop o): ¬Owns J H k:=by
 rintro⟨id,L,⟨B,hb⟩|⟨s,hs⟩,hL,rfl⟩
 ·obtain⟨L',hL',hat⟩:=hH.blk id B hb
  rw[hL] at hL';cases hL'
  obtain⟨o',hcs,ho⟩:=hat.any
  rw[hcs] at h
  cases h
  rcases ho with ⟨_,cs,t,f,rfl⟩|⟨_,es,c,rfl⟩
  ·simp[Obj.isCells] at hc
  ·exact hl
 ·obtain⟨L',hL',hat⟩:=hH.lps id s hs
  rw[hL] at hL';cases hL'
  obtain⟨r,hr,_⟩:=hat.rec_
  rw[hr] at h
  cases h
  exact hl
theorem Ext.obj{J J':Inj}{S S':Sure}{H H':Heap}{w w':World}(hH:RelH J S H w)(hE:Ext J S H w J' S' H' w'){k:Nat}{o:Obj}(h:w.heap[k]?=some o)(hc:o.isCells=false)(hl:notLoop o):w'.heap[k]?=some o:=
 (hE.keep k (Array.getElem?_eq_some_iff.1 h).1 (not_own hH h hc hl)).trans h
theorem Okr.ext{B:Nat}{ro:Option Nat}{ds:List Deferred}{J J':Inj}{S S':Sure}{H H':Heap}{w w':World}(h:Okr B ro ds w)(hH:RelH J S H w)(hE:Ext J S H w J' S' H' w'):Okr B ro ds w':=
 ⟨fun d hd=>by obtain⟨D,h1,h2,h3⟩:=h.marks d hd;exact⟨D,h1,h2,hE.obj hH h3 rfl trivial⟩,h.nodup,fun l hl=>by obtain⟨r,hr⟩:=h.round l hl;exact hE.lp l r hr,Nat.le_trans h.base hE.size⟩
def Post(B:Nat)(ro:Option Nat)(Q:Exit→Fr→Heap→Prop)(J:Inj)(S:Sure)(H:Heap)(w:World)(e:Exit)(ra':Act)(w':World):Prop:=
 ∃J' S' a' H',Q e a' H'∧RelF J' S' a' ra'∧RelH J' S' H' w'∧Ext J S H w J' S' H' w'∧Okr B ro ra'.defers w'
def W(P:Program)(c:Code)(Q:Exit→Fr→Heap→Prop)(a:Fr)(H:Heap):Prop:=
 ∀B ro J S ra w,RelF J S a ra→RelH J S H w→Okr B ro ra.defers w→c.wpIn (FX ro) 0 P (Post B ro Q J S H w) ra w
section
variable {F:Fence} {n:Nat} {P:Program} {b:Frame} {a:Act} {k:List Item} {cs:List Frame} {w:World} {Q:Exit→Act→World→Prop}
theorem stepR_scope{c:Code}:step P (lone (b.atR a (.code (.scope c)::k)) cs w)= .next (lone (b.atR a (.code c:: .inScope c::k)) cs w):=
 step_lone_go (by simp[stepG,stepG.exec,Frame.atR])
theorem stepR_inScope{c:Code}:step P (lone (b.atR a (.inScope c::k)) cs w)= .next (lone (b.atR a k) cs w):=
 step_lone_go (by simp[stepG,stepG.exec,Frame.atR])
theorem zzF{c:Code}(id:Nat):exitTo id (.inScope c::k)=exitTo id k:=by simp[exitTo]
theorem zzR{c:Code}(h:c.wpIn F n P (Exit.noGoto Q) a w):(Code.scope c).wpIn F n P Q a w:=by
 intro b k cs hro hb hr
 obtain⟨e,a1,w1,hq,harr⟩:=h b (.inScope c::k) cs hro hb hr
 have s0:StepsIn (Machine.fenced P F) P (lone (b.atR a (.code (.scope c)::k)) cs w) (lone (b.atR a (.code c:: .inScope c::k)) cs w):= .one (fenced_calm (fr:=b.atR a (.code (.scope c)::k)) hb hr rfl) stepR_scope
 cases e with
 |normal=>exact⟨.normal,a1,w1,hq,(s0.trans harr).trans (.one (fenced_calm (fr:=b.atR a1 (.inScope c::k)) hb hr rfl) stepR_inScope)⟩
 |exit id=>
  refine⟨.exit id,a1,w1,hq,fun k' hk=>s0.trans (harr.1 k' (by rw[zzF];exact hk)),fun hr' hk=>?_⟩
  obtain⟨k1,h1,h2⟩:=harr.2 hr' (by rw[zzF];exact hk)
  exact⟨k1,h1,s0.trans h2⟩
 |goto l=>exact hq.elim
 |ret=>exact⟨.ret,a1,w1,hq,.of_steps s0 harr⟩
 |panic ch=>exact⟨.panic ch,a1,w1,hq,.of_steps s0 harr⟩
 |outgrown=>exact⟨.outgrown,a1,w1,hq,.of_steps s0 harr⟩
theorem ku{c:Code}(I:Nat→Act→World→Prop)(n0:Nat)(h0:I n0 a w)
  (round: ∀m a w,I m a w→c.wpIn F n P (Exit.then (fun a' w'=> ∃m',m'<m∧I m' a' w') Q) a w):(Code.loop c).wpIn F n P Q a w:=by
 refine wpIn_loop (fun a w=> ∃m,I m a w) (fun a w=>leastOf (fun m=>I m a w)) ⟨n0,h0⟩ ?_
 intro a w hI
 refine wpIn_mono (round _ a w (leastOf_spec hI).1) ?_
 intro e a' w' hq
 cases e with
 |normal=>
  obtain⟨m',hlt,hI'⟩:=hq
  show(∃m,I m a' w')∧leastOf (fun m=>I m a' w')<leastOf (fun m=>I m a w)
  exact⟨⟨m',hI'⟩,Nat.lt_of_le_of_lt ((leastOf_spec ⟨m',hI'⟩).2 m' hI') hlt⟩
 |exit id=>exact hq
 |goto l=>exact hq
 |ret=>exact hq
 |panic ch=>exact hq
 |outgrown=>exact hq
end
section rules
variable {P:Program} {Q:Exit→Fr→Heap→Prop} {a:Fr} {H:Heap}
theorem W.mono{c:Code}{Q':Exit→Fr→Heap→Prop}(h:W P c Q a H)(hq: ∀e a H,Q e a H→Q' e a H):W P c Q' a H:=
 fun B ro J S ra w hF hH hO=>wpIn_mono (h B ro J S ra w hF hH hO) fun e a w ⟨J',S',a',H',q,r⟩=>⟨J',S',a',H',hq _ _ _ q,r⟩
theorem W_skip(h:Q .normal a H):W P .skip Q a H:=fun B ro J S ra w hF hH hO=>wpIn_skip ⟨J,S,a,H,h,hF,hH,.refl,hO⟩
theorem W_ret(h:Q .ret a H):W P .ret Q a H:=fun B ro J S ra w hF hH hO=>wpIn_ret ⟨J,S,a,H,h,hF,hH,.refl,hO⟩
theorem W_exit{id:Nat}(h:Q (.exit id) a H):W P (.exit id) Q a H:=fun B ro J S ra w hF hH hO=>wpIn_exit ⟨J,S,a,H,h,hF,hH,.refl,hO⟩
theorem W_label{l:Nat}(h:Q .normal a H):W P (.label l) Q a H:=fun B ro J S ra w hF hH hO=>wpIn_label ⟨J,S,a,H,h,hF,hH,.refl,hO⟩
def thenK(K:Fr→Heap→Prop)(Q:Exit→Fr→Heap→Prop):Exit→Fr→Heap→Prop
 | .normal,a,H=>K a H
 |e,a,H=>Q e a H
theorem W_seq{x y:Code}(h:W P x (thenK (W P y Q) Q) a H):W P (.seq x y) Q a H:=by
 intro B ro J S ra w hF hH hO
 refine wpIn_seq (wpIn_mono (h B ro J S ra w hF hH hO) ?_)
 rintro e ra' w' ⟨J',S',a',H',q,rF,rH,rE,rO⟩
 cases e with
 |normal=>exact wpIn_mono (q B ro J' S' ra' w' rF rH rO) fun e a w ⟨J2,S2,a2,H2,q2,f2,h2,e2,o2⟩=>⟨J2,S2,a2,H2,q2,f2,h2,rE.trans e2,o2⟩
 |_=>exact⟨J',S',a',H',q,rF,rH,rE,rO⟩
theorem W_cond{c:Operand}{x y:Code}{b:Bool}(hc:a.ev c= .bool b)(h1:b=true→W P x Q a H)(h2:b=false→W P y Q a H):W P (.cond c x y) Q a H:=by
 intro B ro J S ra w hF hH hO
 have hv:=hF.ev c
 rw[hc] at hv
 generalize hu:ra.eval c=u at hv
 cases hv
 refine wpIn_cond hu ?_
 cases b
 ·exact h2 rfl B ro J S ra w hF hH hO
 ·exact h1 rfl B ro J S ra w hF hH hO
def blockK(id:Nat)(Q:Exit→Fr→Heap→Prop):Exit→Fr→Heap→Prop
 | .exit id',a,H=>if id'=id then Q .normal a H else Q (.exit id') a H
 |e,a,H=>Q e a H
theorem W_block{id:Nat}{c:Code}(h:W P c (blockK id Q) a H):W P (.block id c) Q a H:=by
 intro B ro J S ra w hF hH hO
 refine wpIn_block (wpIn_mono (h B ro J S ra w hF hH hO) ?_)
 rintro e ra' w' ⟨J',S',a',H',q,r⟩
 cases e with
 |exit id'=>
  simp only[Exit.inBlock,blockK] at q ⊢
  split
  ·rename_i hi;rw[if_pos hi] at q;exact⟨J',S',a',H',q,r⟩
  ·rename_i hi;rw[if_neg hi] at q;exact⟨J',S',a',H',q,r⟩
 |_=>exact⟨J',S',a',H',q,r⟩
def scopeK(Q:Exit→Fr→Heap→Prop):Exit→Fr→Heap→Prop
 | .goto _,_,_=>False
 |e,a,H=>Q e a H
theorem W_scope{c:Code}(h:W P c (scopeK Q) a H):W P (.scope c) Q a H:=by
 intro B ro J S ra w hF hH hO
 refine zzR (wpIn_mono (h B ro J S ra w hF hH hO) ?_)
 rintro e ra' w' ⟨J',S',a',H',q,r⟩
 cases e with
 |goto l=>exact q.elim
 |_=>exact⟨J',S',a',H',q,r⟩
def loopK{α:Type}(I:α→Fr→Heap→Prop)(μ:α→Nat)(x:α)(Q:Exit→Fr→Heap→Prop):Exit→Fr→Heap→Prop
 | .normal,a,H=> ∃y,μ y<μ x∧I y a H
 |e,a,H=>Q e a H
theorem W_loop{α:Type}(I:α→Fr→Heap→Prop)(μ:α→Nat)(x0:α){c:Code}(h0:I x0 a H)(hr: ∀x a H,I x a H→W P c (loopK I μ x Q) a H):W P (.loop c) Q a H:=by
 intro B ro J S ra w hF hH hO
 refine ku (fun n ra' w'=> ∃x J' S' a' H',μ x=n∧I x a' H'∧RelF J' S' a' ra'∧RelH J' S' H' w'∧Ext J S H w J' S' H' w'∧Okr B ro ra'.defers w') (μ x0) ⟨x0,J,S,a,H,rfl,h0,hF,hH,.refl,hO⟩ ?_
 rintro n ra' w' ⟨x,J',S',a',H',rfl,hI,hF',hH',hE',hO'⟩
 refine wpIn_mono (hr x a' H' hI B ro J' S' ra' w' hF' hH' hO') ?_
 rintro e ra2 w2 ⟨J2,S2,a2,H2,q,f2,h2,e2,o2⟩
 cases e with
 |normal=>
  obtain⟨y,hy,hI2⟩:=q
  exact⟨μ y,hy,y,J2,S2,a2,H2,rfl,hI2,f2,h2,hE'.trans e2,o2⟩
 |_=>exact⟨J2,S2,a2,H2,q,f2,h2,hE'.trans e2,o2⟩
def Sees(a:Fr)(H:Heap)(a2:Fr)(H2:Heap):Prop:=
 ∀J S ra w,RelF J S a ra→RelH J S H w→ ∃S2,RelF J S2 a2 ra∧RelH J S2 H2 w∧Ext J S H w J S2 H2 w
theorem W_sees{c:Code}{a2:Fr}{H2:Heap}(hs:Sees a H a2 H2)(h:W P c Q a2 H2):W P c Q a H:=by
 intro B ro J S ra w hF hH hO
 obtain⟨S2,f,hh,e⟩:=hs J S ra w hF hH
 exact wpIn_mono (h B ro J S2 ra w f hh hO) fun _ _ _ ⟨J',S',a',H',q,r1,r2,r3,r4⟩=>⟨J',S',a',H',q,r1,r2,e.trans r3,r4⟩
end rules
theorem VR.undef(J:Inj)(S:Sure):VR J S (.tup []) Go.undef:= .tup rfl (by simp)
def iwant(ops:Array Oper)(o:Oper)(a:Fr):Option Bool:=
 match o.guard with
 |none=>some true
 |some (j,want)=>match (ops[j]?).bind (·.dst) with
  |none=>some false
  |some d=>if d<a.n then match a.get d with
   | .bool b=>some (b==want)
   | .tup []=>some false
   |_=>none else none
theorem yB{ops:Array Oper}{o:Oper}{a:Fr}{b:Bool}(h:iwant ops o a=some b){J:Inj}{S:Sure}{ra:Act}(hF:RelF J S a ra):Region.wanted o (yielded ops ra.tmps)=b:=by
 unfold iwant at h
 unfold Region.wanted
 split at h
 ·rename_i hg;simp only[hg];simpa using h
 ·rename_i j want hg
  simp only[hg]
  split at h
  ·rename_i hd
   simp only[Option.some.injEq] at h
   subst h
   simp[yielded,hd]
  ·rename_i d hd
   split at h
   ·rename_i hlt
    split at h
    ·rename_i b' hb
     cases h
     have hv:=hF.val d
     rw[hb] at hv
     generalize hu:ra.tmps.getD d undef=u at hv
     cases hv
     have hsz:d<ra.tmps.size:=by rw[hF.size];exact hlt
     have:ra.tmps[d]?=some (.bool b'):=by
      rw[Array.getElem?_eq_getElem hsz]
      simp only[Array.getD,hsz,dif_pos] at hu
      exact congrArg some hu
     simp[yielded,hd,this]
    ·rename_i hb
     cases h
     have hv:=hF.val d
     rw[hb] at hv
     generalize hu:ra.tmps.getD d undef=u at hv
     cases hv with
     |tup hl hV=>
      rename_i us
      have hus:us= #[]:=Array.eq_empty_of_size_eq_zero (by rw[←hl];rfl)
      subst hus
      have hsz:d<ra.tmps.size:=by rw[hF.size];exact hlt
      have:ra.tmps[d]?=some (.tuple #[]):=by
       rw[Array.getElem?_eq_getElem hsz]
       simp only[Array.getD,hsz,dif_pos] at hu
       exact congrArg some hu
      simp[yielded,hd,this]
    ·cases h
   ·cases h
def icallee(a:Fr)(c:Call):Option (FuncId×List IV):=
 match c.callee with
 | .value x=>match a.ev x with
  | .fn (.func f) first captured=>some (f,first++c.args.toList.map a.ev++captured)
  |_=>none
 |_=>none
theorem VRs.append{J:Inj}{S:Sure}{xs ys:List IV}{us vs:Array Value}(h:VRs J S xs us)(k:VRs J S ys vs):VRs J S (xs++ys) (us++vs):=by
 refine⟨by simp[h.1,k.1],fun n v u hv hu=>?_⟩
 by_cases hn:n<xs.length
 ·rw[List.getElem?_append_left hn] at hv
  rw[Array.getElem?_append_left (by rw[←h.1];exact hn)] at hu
  exact h.2 n v u hv hu
 ·rw[List.getElem?_append_right (by omega)] at hv
  rw[Array.getElem?_append_right (by rw[←h.1];omega),←h.1] at hu
  exact k.2 _ v u hv hu
theorem icallee_run{P:Program}{a:Fr}{c:Call}{f:FuncId}{args:List IV}(h:icallee a c=some (f,args)){J:Inj}{S:Sure}{ra:Act}(hF:RelF J S a ra)(hc:Callable P f){o:Oper}(ho:o.op= .call c)(w:World):
  ∃us,(execOp ra.eval o).run P w= .ok (.enter f us) w∧VRs J S args us:=by
 unfold icallee at h
 split at h
 ·rename_i x hx
  split at h
  ·rename_i f' first captured hev
   cases h
   have hv:=hF.ev x
   rw[hev] at hv
   generalize hu:ra.eval x=u at hv
   cases hv with
   |fn h1 h2 hV1 hV2=>
    rename_i fs cs
    refine⟨fs++c.args.map ra.eval++cs,?_,(VRs.append ⟨h1,hV1⟩ (VRs.map hF c.args)).append ⟨h2,hV2⟩⟩
    obtain⟨fn,hfn,hb,hname⟩:=hc
    have hn : ¬ (fn.name = "runtime.NumGoroutine") := by simpa using hname
    have hb': ¬(fn.body=none):=by intro h;simp[h] at hb
    simp[execOp,ho,resolve,hx,hu,Deferred.ofValue,invoke,callFunc,hfn,hb',hn]
  ·cases h
 ·cases h
end Go.Proofs.Ytoojnagdenoknaa.IL
