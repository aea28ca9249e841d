/- The ideal logic, part 10b: loops over functions: their records, and their rounds. Nothing here speaks of a given program. -/
import Derived.Test.YtoojnagdenoknaaIL10
set_option linter.unusedSectionVars false
set_option linter.unnecessarySimpa false
set_option linter.unusedVariables false
set_option linter.unusedSimpArgs false
namespace Go.Proofs.Ytoojnagdenoknaa.IL
open Go Go.RowKit
def Heap.setl(H:Heap)(id:Id)(s:LS):Heap:={H with loop:=fun j=>if j=id then some s else H.loop j}
def Heap.open_(H:Heap)(k:Nat)(s:LS):Heap:={H with next:=fun j=>if j=k then H.next k+1 else H.next j,loop:=fun j=>if j=H.fresh k then some s else H.loop j}
def Heap.close(H:Heap)(id:Id):Heap:={H with loop:=fun j=>if j=id then none else H.loop j}
def LS.at(s:LS)(st:LSt):LS:={s with st:=st}
theorem has_setl{H:Heap}{id:Id}{s s':LS}(hs:H.loop id=some s')(i:Id):(H.setl id s).has i↔H.has i:=by
 unfold Heap.has Heap.setl
 by_cases e:i=id
 ·subst e;simp[hs]
 ·simp[e]
theorem zzO{H:Heap}{id i:Id}:(H.close id).has i→H.has i:=by
 unfold Heap.has Heap.close
 rintro(h|⟨s,h⟩)
 ·exact .inl h
 ·simp only at h
  split at h
  ·cases h
  ·exact .inr ⟨s,h⟩
theorem kh{H:Heap}{k:Nat}{s:LS}{i:Id}:(H.open_ k s).has i→i=H.fresh k∨H.has i:=by
 unfold Heap.has Heap.open_
 by_cases e:i=H.fresh k
 ·exact fun _=> .inl e
 ·simp only[e,if_false];exact fun h=> .inr h
theorem rel_setl{J:Inj}{S:Sure}{H:Heap}{w:World}(hH:RelH J S H w){id:Id}{s:LS}{L:Loc}{r r':Loop}(hs:H.loop id=some s)(hJ:J id=some L)(hr:w.heap[L.rb]?=some (.loop r))
  (s':LS) (h:r'.params=s'.ps∧r'.assign=s'.asg∧r'.body=s'.body∧RelF J S s'.fr {tmps:=r'.tmps,defers:=[]}∧s'.st.is r'):
  RelH J S (H.setl id s') (w.putObj L.rb (.loop r'))∧Ext J S H w J S (H.setl id s') (w.putObj L.rb (.loop r')):=by
 have hlt:L.rb<w.heap.size:=(Array.getElem?_eq_some_iff.1 hr).1
 have hsame:(w.putObj L.rb (.loop r')).heap[L.rb]?=some (.loop r'):=World.putObj_heap_same hlt
 have hoth: ∀k,k≠L.rb→(w.putObj L.rb (.loop r')).heap[k]?=w.heap[k]?:=fun k hk=>World.putObj_heap_other hk
 refine⟨⟨fun i b hb=>?_,fun i i' M M' h1 h2=>hH.inj i i' M M' ((has_setl hs i).1 h1) ((has_setl hs i').1 h2),fun a v hav=>?_,hH.next,fun i t ht=>?_⟩,⟨fun _ _ h=>h,fun _ _ h=>h,fun _ _ h=> .inl h,fun b ⟨i,M,hi,hM,hk⟩=> .inl ⟨i,M,(has_setl hs i).1 hi,hM,hk⟩,fun k hk ho=>hoth k fun e=>ho ⟨id,L,.inr ⟨s,hs⟩,hJ,e.symm⟩,by simp,rfl,rfl,rfl,fun _=>Nat.le_refl _,fun k q hq=>?_⟩⟩
 ·obtain⟨M,hM,hat⟩:=hH.blk i b hb
  exact⟨M,hM,hat.heap (hoth _ (fun e=>hH.apart hb hM hs hJ e.symm))⟩
 ·obtain⟨h1,h2⟩:=hH.sure a v hav
  have hne:a.blk≠L.rb:=fun e=>h2 ⟨id,L,.inr ⟨s,hs⟩,hJ,e.symm⟩
  exact⟨by rw[yT (hoth _ hne)];exact h1,fun⟨i,M,hi,hM,hk⟩=>h2 ⟨i,M,(has_setl hs i).1 hi,hM,hk⟩⟩
 ·simp only[Heap.setl] at ht
  by_cases e:i=id
  ·subst e
   rw[if_pos rfl] at ht;cases ht
   exact⟨L,hJ,⟨r',hsame,h⟩⟩
  ·rw[if_neg e] at ht
   obtain⟨M,hM,hat⟩:=hH.lps i t ht
   exact⟨M,hM,hat.heap (hoth _ (fun e'=>e (hH.inj i id M L (.inr ⟨t,ht⟩) (.inr ⟨s,hs⟩) hM hJ e')))⟩
 ·by_cases e:k=L.rb
  ·subst e;exact⟨r',hsame⟩
  ·exact⟨q,(hoth k e).trans hq⟩
theorem rel_close{J:Inj}{S:Sure}{H:Heap}{w:World}(hH:RelH J S H w){id:Id}{s:LS}{L:Loc}{r:Loop}(r':Loop)(hs:H.loop id=some s)(hJ:J id=some L)(hr:w.heap[L.rb]?=some (.loop r)):
  RelH J S (H.close id) (w.putObj L.rb (.loop r'))∧Ext J S H w J S (H.close id) (w.putObj L.rb (.loop r')):=by
 have hlt:L.rb<w.heap.size:=(Array.getElem?_eq_some_iff.1 hr).1
 have hsame:(w.putObj L.rb (.loop r')).heap[L.rb]?=some (.loop r'):=World.putObj_heap_same hlt
 have hoth: ∀k,k≠L.rb→(w.putObj L.rb (.loop r')).heap[k]?=w.heap[k]?:=fun k hk=>World.putObj_heap_other hk
 refine⟨⟨fun i b hb=>?_,fun i i' M M' h1 h2=>hH.inj i i' M M' (zzO h1) (zzO h2),fun a v hav=>?_,hH.next,fun i t ht=>?_⟩,⟨fun _ _ h=>h,fun _ _ h=>h,fun _ _ h=> .inl h,fun b ⟨i,M,hi,hM,hk⟩=> .inl ⟨i,M,zzO hi,hM,hk⟩,fun k hk ho=>hoth k fun e=>ho ⟨id,L,.inr ⟨s,hs⟩,hJ,e.symm⟩,by simp,rfl,rfl,rfl,fun _=>Nat.le_refl _,fun k q hq=>?_⟩⟩
 ·obtain⟨M,hM,hat⟩:=hH.blk i b hb
  exact⟨M,hM,hat.heap (hoth _ (fun e=>hH.apart hb hM hs hJ e.symm))⟩
 ·obtain⟨h1,h2⟩:=hH.sure a v hav
  have hne:a.blk≠L.rb:=fun e=>h2 ⟨id,L,.inr ⟨s,hs⟩,hJ,e.symm⟩
  exact⟨by rw[yT (hoth _ hne)];exact h1,fun⟨i,M,hi,hM,hk⟩=>h2 ⟨i,M,zzO hi,hM,hk⟩⟩
 ·simp only[Heap.close] at ht
  by_cases e:i=id
  ·rw[if_pos e] at ht;cases ht
  ·rw[if_neg e] at ht
   obtain⟨M,hM,hat⟩:=hH.lps i t ht
   exact⟨M,hM,hat.heap (hoth _ (fun e'=>e (hH.inj i id M L (.inr ⟨t,ht⟩) (.inr ⟨s,hs⟩) hM hJ e')))⟩
 ·by_cases e:k=L.rb
  ·subst e;exact⟨r',hsame⟩
  ·exact⟨q,(hoth k e).trans hq⟩
theorem rel_open{J:Inj}{S:Sure}{H:Heap}{w:World}(hH:RelH J S H w)(k:Nat)(r:Loop)(s:LS)(h:r.params=s.ps∧r.assign=s.asg∧r.body=s.body∧RelF J S s.fr {tmps:=r.tmps,defers:=[]}∧s.st.is r):
  ∃J',J' (H.fresh k)=some ⟨w.heap.size,0,0,0,false⟩∧RelH J' S (H.open_ k s) (w.alloc (.loop r))∧Ext J S H w J' S (H.open_ k s) (w.alloc (.loop r)):=by
 have hnew:J (H.fresh k)=none:=by
  cases h:J (H.fresh k) with
  |none=>rfl
  |some L=>exact absurd (hH.next _ _ h) (by simp[Heap.fresh])
 have hmono: ∀id L,J id=some L→(fun j=>if j=H.fresh k then some (⟨w.heap.size,0,0,0,false⟩:Loc) else J j) id=some L:=by
  intro id L h
  have:id≠H.fresh k:=by intro e;subst e;rw[hnew] at h;cases h
  simp only[if_neg this,h]
 have hheap: ∀j,j<w.heap.size→(w.alloc (.loop r)).heap[j]?=w.heap[j]?:=fun j hj=>Below.heap_alloc w _ j hj
 refine⟨fun j=>if j=H.fresh k then some ⟨w.heap.size,0,0,0,false⟩ else J j,by simp,⟨fun i B hB=>?_,fun i i' M M' hB hB' hM hM' hr=>?_,fun a v hs=>?_,fun i M hM=>?_,fun i t ht=>?_⟩,?_⟩
 ·obtain⟨M,hM,hat⟩:=hH.blk i B hB
  exact⟨M,hmono i M hM,(hat.heap (hheap _ (hH.lt hB hM))).mono hmono (fun _ _ h=>h)⟩
 ·by_cases e:i=H.fresh k<;>by_cases e':i'=H.fresh k
  ·rw[e,e']
  ·simp only[if_pos e,if_neg e',Option.some.injEq] at hM hM'
   have:=hH.hlt ((kh hB').resolve_left e') hM'
   subst hM
   simp at hr;omega
  ·simp only[if_neg e,if_pos e',Option.some.injEq] at hM hM'
   have:=hH.hlt ((kh hB).resolve_left e) hM
   subst hM'
   simp at hr;omega
  ·simp only[if_neg e,if_neg e'] at hM hM'
   exact hH.inj i i' M M' ((kh hB).resolve_left e) ((kh hB').resolve_left e') hM hM' hr
 ·obtain⟨h1,h2⟩:=hH.sure a v hs
  have hlt:=kno_lt h1
  refine⟨by rw[yT (hheap _ hlt)];exact h1,?_⟩
  rintro⟨i,M,hB,hM,hk⟩
  by_cases e:i=H.fresh k
  ·simp only[if_pos e,Option.some.injEq] at hM
   subst hM;simp at hk;omega
  ·simp only[if_neg e] at hM
   exact h2 ⟨i,M,(kh hB).resolve_left e,hM,hk⟩
 ·by_cases e:i=H.fresh k
  ·subst e;simp[Heap.open_,Heap.fresh]
  ·simp only[if_neg e] at hM
   have:=hH.next i M hM
   simp only[Heap.open_]
   split
   ·rename_i hk;rw[hk] at this;omega
   ·exact this
 ·by_cases e:i=H.fresh k
  ·subst e
   simp only[Heap.open_,if_true,Option.some.injEq] at ht
   subst ht
   refine⟨⟨w.heap.size,0,0,0,false⟩,by simp only[if_true],⟨r,World.alloc_heap_new w _,h.1,h.2.1,h.2.2.1,h.2.2.2.1.mono hmono (fun _ _ h=>h),h.2.2.2.2⟩⟩
  ·simp only[Heap.open_,if_neg e] at ht
   obtain⟨M,hM,hat⟩:=hH.lps i t ht
   exact⟨M,hmono i M hM,(hat.heap (hheap _ (hH.hlt (.inr ⟨t,ht⟩) hM))).mono hmono (fun _ _ h=>h)⟩
 ·refine⟨hmono,fun _ _ h=>h,fun _ _ h=> .inl h,?_,fun j hj _=>hheap j hj,by simp,rfl,rfl,rfl,fun j=>by simp only[Heap.open_];split<;>simp_all,fun q r' hq=>⟨r',(hheap q (Array.getElem?_eq_some_iff.1 hq).1).trans hq⟩⟩
  rintro b ⟨i,M,hB,hM,hk⟩
  by_cases e:i=H.fresh k
  ·simp only[if_pos e,Option.some.injEq] at hM
   subst hM;simp at hk;right;omega
  ·simp only[if_neg e] at hM
   exact .inl ⟨i,M,(kh hB).resolve_left e,hM,hk⟩
def Fr.puts(a:Fr):List (Tmp×IV)→Fr
 |[]=>a
 |(t,v)::l=>(a.put t v).puts l
theorem puts_rel{J:Inj}{S:Sure}: ∀(ps:List Tmp) (vs:List IV) (us:List Value) (a:Fr) (tm:Array Value),vs.length=us.length→(∀t∈ps,t<a.n)→(∀(k:Nat) (v:IV) (u:Value),vs[k]?=some v→us[k]?=some u→VR J S v u)→
  RelF J S a {tmps:=tm,defers:=[]}→RelF J S (a.puts (ps.zip vs)) {tmps:=(ps.zip us).foldl (fun tm (t,u)=>tm.setIfInBounds t u) tm,defers:=[]}
 |[],vs,us,a,tm,_,_,_,h=>by simpa [Fr.puts] using h
 |t::ps,[],[],a,tm,_,_,_,h=>by simpa [Fr.puts] using h
 |t::ps,v::vs,u::us,a,tm,hl,hn,hv,h=>by
  simp only[List.zip_cons_cons,Fr.puts,List.foldl_cons]
  refine puts_rel ps vs us (a.put t v) (tm.setIfInBounds t u) (by simpa using hl) (fun t' ht'=>hn t' (by simp[ht'])) (fun k v' u' h1 h2=>hv (k+1) v' u' (by simpa using h1) (by simpa using h2)) ?_
  have:=h.put (d:=some t) (v:=v) (u:=u) (by simpa [Fr.has] using hn t (by simp)) (hv 0 v u (by simp) (by simp))
  exact this
def roundK(id:Id)(s:LS)(K:IV→Heap→Prop):Exit→Fr→Heap→Prop
 | .normal,_,H=>H.loop id=some (s.at .busy)∧K (.bool true) (H.setl id (s.at .ready))
 | .ret,_,H=>H.loop id=some (s.at .busy)∧K (.bool false) (H.setl id (s.at (.done .ret)))
 | .exit i,_,H=>H.loop id=some (s.at .busy)∧K (.bool false) (H.setl id (s.at (.done (.exit i))))
 |_,_,_=>False
def YW(P:Program)(id:Id)(args:List IV)(H:Heap)(K:IV→Heap→Prop):Prop:=
 ∃s,H.loop id=some (s.at .ready)∧args.length=s.ps.size∧(∀t∈s.ps.toList,t<s.fr.n)∧
  W P s.asg (thenK (fun a1 H1=>H1.loop id=some (s.at .ready)∧W P s.body (roundK id s K) a1 (H1.setl id (s.at .busy))) fun _ _ _=>False) (s.fr.puts (s.ps.toList.zip args)) H
theorem YW.sound{P:Program}{id:Id}{args:List IV}{H:Heap}{K:IV→Heap→Prop}(h:YW P id args H K){J:Inj}{S:Sure}{w:World}{us:Array Value}{L:Loc}(hH:RelH J S H w)(ha:VRs J S args us)(hJ:J id=some L)(ro:Option Nat):
  ∃fn tmps assign body,(Instr.yield L.rb us).run P w= .ok (.round L.rb fn tmps assign body) w∧
   RoundIn (FX ro) 0 P L.rb fn tmps assign body w fun e w'=> ∃J' S' u v H',e= .returned u∧K v H'∧VR J' S' v u∧RelH J' S' H' w'∧Ext J S H w J' S' H' w':=by
 obtain⟨s,hs,hlen,hps,hW⟩:=h
 obtain⟨L',hL',hat⟩:=hH.lps id _ hs
 rw[hJ] at hL';cases hL'
 obtain⟨r,hr,p1,p2,p3,p4,p5⟩:=hat.rec_
 have hsz:us.size=r.params.size:=by rw[←ha.1,hlen];exact congrArg Array.size p1.symm
 refine⟨r.fn,_,r.assign,r.body,run_yield hr hsz,?_⟩
 refine roundIn_of_wpIn (F:=FX ro) trivial ?_
 show r.assign.wpIn (FX (some L.rb)) 0 P _ _ w
 have hF0:RelF J S (s.fr.puts (s.ps.toList.zip args)) {tmps:=(r.params.zip us).foldl (fun tm (t,u)=>tm.setIfInBounds t u) r.tmps,defers:=[]}:=by
  have:=puts_rel s.ps.toList args us.toList s.fr r.tmps (by simpa using ha.1) hps (fun k v u h1 h2=>ha.2 k v u h1 (by simpa using h2)) p4
  have e:r.params=s.ps:=p1
  rw[e,←Array.foldl_toList,Array.toList_zip]
  exact this
 have e2:r.assign=s.asg:=p2
 have e3:r.body=s.body:=p3
 rw[e2,e3]
 refine wpIn_mono (hW w.heap.size (some L.rb) J S _ w hF0 hH ⟨fun d hd=>(by cases hd),List.nodup_nil,fun l hl=>(by cases hl;exact⟨r,hr⟩),Nat.le_refl _⟩) ?_
 rintro e ra1 w1 ⟨J1,S1,a1,H1,q,hF1,hH1,hE1,hO1⟩
 cases e with
 |normal=>
  obtain⟨hs1,hB⟩:=q
  have hJ1:=hE1.hJ _ _ hJ
  obtain⟨L1,hL1,hat1⟩:=hH1.lps id _ hs1
  rw[hJ1] at hL1;cases hL1
  obtain⟨r1,hr1,g1,g2,g3,g4,g5⟩:=hat1.rec_
  refine⟨_,run_beginRound hr1 g5.1,?_⟩
  obtain⟨hH2,hE2⟩:=rel_setl hH1 hs1 hJ1 hr1 (r':={r1 with state:= .busy}) (s.at .busy) ⟨g1,g2,g3,g4,rfl⟩
  refine wpIn_mono (hB w.heap.size (some L.rb) J1 S1 ra1 _ hF1 hH2 (hO1.ext hH1 hE2)) ?_
  rintro e ra3 w3 ⟨J3,S3,a3,H3,q,hF3,hH3,hE3,hO3⟩
  have fin: ∀(jump:Option Code) (st:LSt),(st.is=fun r=>r.state=(if jump.isNone then .ready else .done)∧r.pending=jump)→H3.loop id=some (s.at .busy)→K (.bool jump.isNone) (H3.setl id (s.at st))→
    ∃v w',(Instr.endRound L.rb jump).run P w3= .ok v w'∧ ∃J' S' u x H',(Ending.returned v)= .returned u∧K x H'∧VR J' S' x u∧RelH J' S' H' w'∧Ext J S H w J' S' H' w':=by
   intro jump st hst hs3 hK
   have hJ3:=hE3.hJ _ _ hJ1
   obtain⟨L3,hL3,hat3⟩:=hH3.lps id _ hs3
   rw[hJ3] at hL3;cases hL3
   obtain⟨r3,hr3,k1,k2,k3,k4,k5⟩:=hat3.rec_
   obtain⟨hH4,hE4⟩:=rel_setl hH3 hs3 hJ3 hr3 (r':={r3 with state:=if jump.isNone then .ready else .done,pending:=jump}) (s.at st) ⟨k1,k2,k3,k4,by show st.is _;rw[hst];exact⟨rfl,rfl⟩⟩
   exact⟨_,_,run_endRound jump hr3,J3,S3,_,_,_,rfl,hK,.bool _,hH4,((hE1.trans hE2).trans hE3).trans hE4⟩
  cases e with
  |normal=>exact fin none .ready rfl q.1 q.2
  |ret=>exact fin (some .ret) (.done .ret) rfl q.1 q.2
  |exit i=>exact fin (some (.exit i)) (.done (.exit i)) rfl q.1 q.2
  |_=>exact q.elim
 |_=>exact q.elim
theorem roundK.mono{id:Id}{s:LS}{K K':IV→Heap→Prop}(h: ∀v H,K v H→K' v H): ∀e a H,roundK id s K e a H→roundK id s K' e a H:=by
 intro e a H q
 cases e with
 |normal=>exact⟨q.1,h _ _ q.2⟩
 |ret=>exact⟨q.1,h _ _ q.2⟩
 |exit i=>exact⟨q.1,h _ _ q.2⟩
 |_=>exact q
theorem YW.mono{P:Program}{id:Id}{args:List IV}{H:Heap}{K K':IV→Heap→Prop}(h:YW P id args H K)(hk: ∀v H',K v H'→K' v H'):YW P id args H K':=by
 obtain⟨s,hs,hl,hp,hW⟩:=h
 refine⟨s,hs,hl,hp,hW.mono ?_⟩
 rintro e a1 H1 q
 cases e with
 |normal=>exact⟨q.1,q.2.mono (roundK.mono hk)⟩
 |_=>exact q
def iyield(a:Fr)(c:Call):Option (Id×List IV):=
 match c.callee with
 | .value x=>match a.ev x with
  | .yld id=>some (id,c.args.toList.map a.ev)
  |_=>none
 |_=>none
theorem iyield_run{P:Program}{a:Fr}{c:Call}{id:Id}{args:List IV}(h:iyield a c=some (id,args)){J:Inj}{S:Sure}{ra:Act}(hF:RelF J S a ra){o:Oper}(ho:o.op= .call c)(w:World):
  ∃L us,J id=some L∧VRs J S args us∧ ∀r,(Instr.yield L.rb us).run P w= .ok r w→(execOp ra.eval o).run P w= .ok r w:=by
 unfold iyield at h
 split at h
 ·rename_i x hx
  split at h
  ·rename_i id' hev
   cases h
   have hv:=hF.ev x
   rw[hev] at hv
   generalize hu:ra.eval x=u at hv
   cases hv with
   |yld hL=>
    rename_i L
    refine⟨L,c.args.map ra.eval,hL,VRs.map hF c.args,?_⟩
    intro r hr
    simp[execOp,ho,resolve,hx,hu,Deferred.ofValue,invoke,hr]
  ·cases h
 ·cases h
end Go.Proofs.Ytoojnagdenoknaa.IL
