/- The ideal logic: ranges over maps that are known for ever. The order is the tape's. Nothing here speaks of a given program. -/
import Derived.Test.YtoojnagdenoknaaIL20
import Derived.Maps.RangeRun
set_option linter.unusedSectionVars false
set_option linter.unnecessarySimpa false
set_option linter.unusedVariables false
set_option linter.unusedSimpArgs false
namespace Go.Proofs.Ytoojnagdenoknaa.IL
open Go Go.RowKit
open Go.ChangeMaps (setBlock)
def bornAt(es:Array MapEntry)(j:Nat):Nat:=match es[j]? with|some x=>x.born|none=>0
def seenOf(es:Array MapEntry)(js:List Nat):Array Nat:=(js.map (bornAt es)).toArray
theorem seenOf_push(es:Array MapEntry)(js:List Nat)(j:Nat):(seenOf es js).push (bornAt es j)=seenOf es (js++[j]):=by simp[seenOf]
def Rising(es:Array MapEntry):Prop:= ∀(i j:Nat) (x y:MapEntry),es[i]?=some x→es[j]?=some y→i<j→x.born<y.born
theorem Rising.inj{es:Array MapEntry}(h:Rising es){i j:Nat}{x y:MapEntry}(hi:es[i]?=some x)(hj:es[j]?=some y)(e:x.born=y.born):i=j:=by
 rcases Nat.lt_trichotomy i j with h1|h1|h1
 ·have:=h i j x y hi hj h1;omega
 ·exact h1
 ·have:=h j i y x hj hi h1;omega
theorem seen_mem{es:Array MapEntry}{js:List Nat}{b:Nat}:(seenOf es js).contains b=true↔ ∃j∈js,bornAt es j=b:=by
 simp[seenOf,Array.contains_iff_mem]
theorem perm_all{n:Nat}{js:List Nat}(h:js.Nodup)(h1: ∀j∈js,j<n)(h2: ∀j,j<n→j∈js):js.Perm (List.range n):=by
 rw[List.perm_iff_count]
 intro a
 rw[h.count,List.nodup_range.count]
 have:(a∈js)=(a∈List.range n):=propext ⟨fun q=>List.mem_range.2 (h1 a q),fun q=>h2 a (List.mem_range.1 q)⟩
 simp only[this]
theorem nodup_le{n:Nat}{js:List Nat}(h:js.Nodup)(h1: ∀j∈js,j<n):js.length≤n:=by
 have:=List.Nodup.length_le_of_subset (l₂:=List.range n) h fun j hj=>List.mem_range.2 (h1 j hj)
 simpa using this
theorem rawop{P:Program}{ops:Array Oper}{o:Oper}{rest:List Oper}{ro:Option Nat}{Q:Exit→Act→World→Prop}{ra:Act}{w w':World}{u:Value}(hnd: ∀c,o.op≠ .defer c)(hg:o.guard=none)
  (hrun:(execOp ra.eval o).run P w= .ok (.value u) w') (k:wpListIn (FX ro) 0 P ops Q rest (ra.put o.dst u) w'):wpListIn (FX ro) 0 P ops Q (o::rest) ra w:=by
 refine wpListIn_plain hg fun K hK=>⟨fun _ _=>trivial,?_⟩
 show o.uponIn (FX ro) 0 P ra K Q ((o.semAt ro ra.eval).run P w)
 rw[Oper.semAt_eq _ _ _ hnd,hrun,Oper.uponIn_value]
 exact hK _ _ k
theorem vcOps_pre{P:Program}{ops:Array Oper}{K:Fr→Heap→Prop}{J0:Inj}{S0:Sure}{H0:Heap}{w0:World}{B:Nat}{ro:Option Nat}{Q:Exit→Act→World→Prop}{rest:List Oper}
  (hk: ∀a H J S ra w,K a H→RelF J S a ra→RelH J S H w→Okr B ro ra.defers w→Ext J0 S0 H0 w0 J S H w→wpListIn (FX ro) 0 P ops Q rest ra w):
  ∀(l:List Oper) (a:Fr) (H:Heap),vcOps P ops l K a H→ ∀J S ra w,RelF J S a ra→RelH J S H w→Okr B ro ra.defers w→Ext J0 S0 H0 w0 J S H w→wpListIn (FX ro) 0 P ops Q (l++rest) ra w
 |[],a,H,h,J,S,ra,w,hF,hH,hO,hE=>hk a H J S ra w h hF hH hO hE
 |o::l,a,H,h,J,S,ra,w,hF,hH,hO,hE=>by
  obtain⟨hd,h⟩:=h
  refine wpListIn_step fun K' hK=>?_
  unfold wantK at h
  split at h
  ·rename_i hw
   rw[yB hw hF,if_pos rfl]
   refine yi h hF hH ?_ ro
   intro v H' J' S' u w' hv hvr hH' hE'
   refine hK _ _ (vcOps_pre hk l _ H' hv J' S' _ w' ?_ hH' ?_ (hE.trans hE'))
   ·exact(hF.mono hE'.hJ hE'.hS).put hd hvr
   ·rw[yC];exact hO.ext hH hE'
  ·rename_i hw
   rw[yB hw hF,if_neg (by simp)]
   exact⟨fun _ _=>trivial,hK _ _ (vcOps_pre hk l _ H h J S _ w (hF.put hd (.undef _ _)) hH (by rw[yC];exact hO) hE)⟩
  ·exact h.elim
theorem iter_step{J J':Inj}{S S':Sure}{H H':Heap}{w w' w2:World}(hH:RelH J' S' H' w')(hE:Ext J S H w J' S' H' w'){r:Nat}{q:Option Nat}{s l:Nat}{sn:Array Nat}(hr:w'.heap[r]?=some (.mapIter q s sn l))(hge:w.heap.size≤r)
  (h1: ∀k,k≠r→w2.heap[k]?=w'.heap[k]?) (h2:w2.heap.size=w'.heap.size) (h3:w2.os=w'.os) (h4:w2.tape=w'.tape) (h5:w2.output=w'.output):
  RelH J' S' H' w2∧Ext J S H w J' S' H' w2∧ ∀B ro ds,Okr B ro ds w'→Okr B ro ds w2:=by
 have hno: ¬Owns J' H' r:=not_own hH hr rfl trivial
 refine⟨⟨fun id b hb=>?_,hH.inj,fun a v hs=>?_,hH.next,fun id s hs=>?_⟩,⟨hE.hJ,hE.hS,hE.snew,hE.own,fun k hk ho=>(h1 k (by omega)).trans (hE.keep k hk ho),by rw[h2];exact hE.size,h3.trans hE.os,h4.trans hE.tape,h5.trans hE.output,hE.next,fun k rr hk=>?_⟩,fun B ro ds hO=>⟨fun d hd=>?_,hO.nodup,fun l hl=>?_,by rw[h2];exact hO.base⟩⟩
 ·obtain⟨L,hL,hat⟩:=hH.blk id b hb
  exact⟨L,hL,hat.heap (h1 _ fun e=>hno ⟨id,L,.inl ⟨b,hb⟩,hL,e⟩)⟩
 ·obtain⟨g1,g2⟩:=hH.sure a v hs
  refine⟨?_,g2⟩
  rw[yT (w:=w') (h1 _ fun e=>?_)]
  ·exact g1
  ·cases a with
   |c a=>
    have g1:w'.cell? a=some v:=g1
    have e:a.block=r:=e
    unfold World.cell? at g1
    rw[e,hr] at g1
    simp at g1
   |m b=>
    obtain⟨es,c,g3,_⟩:=kno_m g1
    have e:b=r:=e
    rw[e,hr] at g3;cases g3
 ·obtain⟨L,hL,hat⟩:=hH.lps id s hs
  exact⟨L,hL,hat.heap (h1 _ fun e=>hno ⟨id,L,.inr ⟨s,hs⟩,hL,e⟩)⟩
 ·obtain⟨r',hr'⟩:=hE.lp k rr hk
  exact⟨r',(h1 k fun e=>by rw[e,hr] at hr';cases hr').trans hr'⟩
 ·obtain⟨D,e,hB,hD⟩:=hO.marks d hd
  exact⟨D,e,hB,(h1 D fun e=>by rw[e,hr] at hD;cases hD).trans hD⟩
 ·obtain⟨r',hr'⟩:=hO.round l hl
  exact⟨r',(h1 l fun e=>by rw[e,hr] at hr';cases hr').trans hr'⟩
theorem zze{js:List Nat}{j:Nat}(h:js.Nodup)(hj:j∉js):(js++[j]).Nodup:=by
 rw[List.nodup_append]
 exact⟨h,by simp,fun a ha b hb=>by simp at hb;subst hb;exact fun e=>hj (e▸ha)⟩
theorem perm_rest{n:Nat}{js:List Nat}(h:js.Nodup)(h1: ∀j∈js,j<n): ∃rest,List.Perm (js++rest) (List.range n):=by
 refine⟨(List.range n).filter fun j=>decide (j∉js),perm_all ?_ ?_ ?_⟩
 ·rw[List.nodup_append]
  refine⟨h,List.Nodup.sublist (List.filter_sublist) List.nodup_range,fun a ha b hb e=>?_⟩
  have:=(List.mem_filter.1 hb).2
  rw[←e] at this
  exact of_decide_eq_true this ha
 ·intro j hj
  rcases List.mem_append.1 hj with hj|hj
  ·exact h1 j hj
  ·exact List.mem_range.1 (List.mem_filter.1 hj).1
 ·intro j hj
  by_cases c:j∈js
  ·exact List.mem_append.2 (.inl c)
  ·exact List.mem_append.2 (.inr (List.mem_filter.2 ⟨List.mem_range.2 hj,decide_eq_true c⟩))
def rndFr(a:Fr)(tN tB tE tX tV:Nat)(v:IV):Fr:=((((a.put tN .junk).put tB (.bool true)).put tE .junk).put tX v).put tV v
set_option maxHeartbeats 1000000 in
theorem W_rmap{P:Program}{Q:Exit→Fr→Heap→Prop}{a:Fr}{H:Heap}{pre:List Oper}{x:Operand}{t kt et:TypeId}{tI tN tB tE tX tV bid b2 r0 r1 r2 ix:Nat}{y0 y1 y2 y3 y4 y5:TypeId}{p0 p1 p2 p3 p4 p5:String}{f0 f1 f2 f3 f4 f5:Array Edge}{body:Code}{rows:List (List IV)}
  (I:IV→List Nat→Fr→Heap→Prop) (hu:P.underlying t=some (.map kt et)) (hix:ix<2)
  (hpre:vcOps P (pre++[(⟨some tI,.range t x,y0,p0,f0,none⟩:Oper)]).toArray pre (fun a1 H1=>a1.ev x= .mim rows∧tI<a1.n∧ ∀it,I it [] (a1.put tI it) H1) a H)
  (hit: ∀it p a H,I it p a H→a.get tI=it∧tN<a.n∧tB<a.n∧tE<a.n∧tX<a.n∧tV<a.n) (hne:tN≠tI∧tB≠tI∧tN≠tB∧tE≠tX)
  (hbody: ∀it p j row a H v,rows[j]?=some row→row[ix]?=some v→(∃rest,List.Perm (p++j::rest) (List.range rows.length))→I it p a H→W P body (blockK b2 fun e a' H'=>match e with| .normal=>I it (p++[j]) a' H'|e=>blockK bid Q e a' H') (rndFr a tN tB tE tX tV v) H)
  (hend: ∀it p a H,List.Perm p (List.range rows.length)→I it p a H→Q .normal ((a.put tN .junk).put tB (.bool false)) H):
  W P (.seq (.region r0 (pre++[(⟨some tI,.range t x,y0,p0,f0,none⟩:Oper)]).toArray false) (.block bid (.loop (.seq (.region r1 #[⟨some tN,.next (.tmp tI) false,y1,p1,f1,none⟩,⟨some tB,.extract (.tmp tN) 0,y2,p2,f2,none⟩] false)
   (.seq (.cond (.tmp tB) .skip (.exit bid)) (.block b2 (.seq (.region r2 #[⟨some tE,.entry (.tmp tI),y3,p3,f3,none⟩,⟨some tX,.extract (.tmp tE) ix,y4,p4,f4,none⟩,⟨some tV,.assign (.tmp tX),y5,p5,f5,none⟩] false) body))))))) Q a H:=by
 intro B ro J S ra w hF hH hO
 refine wpIn_seq ?_
 let Inv:Option (Nat×Nat)→Array MapEntry→Nat→List Nat→Act→World→Prop:=fun bm es r js ra' w'=> ∃J' S' a' H',I (.real (.pointer (some ⟨r,0,none⟩))) js a' H'∧RelF J' S' a' ra'∧RelH J' S' H' w'∧Ext J S H w J' S' H' w'∧Okr B ro ra'.defers w'∧
  (match bm with|some (b,c)=>w'.heap[r]?=some (.mapIter (some b) c (seenOf es js) c)∧S' (.m b) (mobj es c)|none=> ∃s q l,w'.heap[r]?=some (.mapIter none s q l))∧
  js.Nodup∧(∀j∈js,j<es.size)∧(∀(i:Nat) (e:MapEntry) (k v:IV),es[i]?=some e→rows[i]?=some [k,v]→VR J' S' k e.key∧VR J' S' v e.val)
 suffices hreg:wpListIn (FX ro) 0 P (pre++[(⟨some tI,.range t x,y0,p0,f0,none⟩:Oper)]).toArray (fun e ra' w'=>e= .normal∧ ∃bm es r,w.heap.size≤r∧es.size=rows.length∧Rising es∧(∀b c,bm=some (b,c)→ ∀(i:Nat) (e:MapEntry),es[i]?=some e→e.born<c)∧(bm=none→es.size=0)∧(∀(i:Nat) (row:List IV),rows[i]?=some row→ ∃k v,row=[k,v])∧Inv bm es r [] ra' w') (pre++[(⟨some tI,.range t x,y0,p0,f0,none⟩:Oper)]) ra w by
  refine wpIn_mono (wpIn_region_lit hreg) ?_
  rintro e ra1 w1 ⟨rfl,bm,es,r,hge,hlen,hris,hborn,hnil,hrows,hinv⟩
  show Code.wpIn _ _ _ _ _ _ _
  refine wpIn_block ?_
  refine ku (fun n ra' w'=> ∃js,n=es.size-js.length∧Inv bm es r js ra' w') es.size ⟨[],by simp,hinv⟩ ?_
  rintro n ra2 w2 ⟨js,rfl,J2,S2,a2,H2,hI,hF2,hH2,hE2,hO2,hitr,hnd,hlt,hval⟩
  obtain⟨gI,gN,gB,gE,gX,gV⟩:=hit _ _ _ _ hI
  have htI:ra2.eval (.tmp tI)= .pointer (some ⟨r,0,none⟩):=by
   have:=hF2.val tI
   rw[gI] at this
   show ra2.tmps.getD tI undef=_
   generalize ra2.tmps.getD tI undef=u at this
   cases this;rfl
  have hasN:a2.has (some tN)=true:=by simp[Fr.has,gN]
  have hasB: ∀v,(a2.put tN v).has (some tB)=true:=fun v=>by simp[Fr.has,Fr.put,gB]
  have hsz2:ra2.tmps.size=a2.n:=hF2.size
  have ev1: ∀(ra:Act) (d:Nat) (u:Value),d<ra.tmps.size→(ra.put (some d) u).eval (.tmp d)=u:=by
   intro ra d u hd
   simp[Act.put,Act.eval,Array.getD_eq_getD_getElem?,hd]
  have sz1: ∀(ra:Act) (d:Nat) (u:Value),(ra.put (some d) u).tmps.size=ra.tmps.size:=by intro ra d u;simp[Act.put]
  have df1: ∀(ra:Act) (d:Nat) (u:Value),(ra.put (some d) u).defers=ra.defers:=fun _ _ _=>rfl
  have step:((∀j,j<es.size→j∈js)∧(Instr.next (.pointer (some ⟨r,0,none⟩)) false y1).run P w2= .ok (.tuple #[.bool false]) w2)∨
    ∃b c j e w3,bm=some (b,c)∧j∉js∧es[j]?=some e∧(Instr.next (.pointer (some ⟨r,0,none⟩)) false y1).run P w2= .ok (.tuple #[.bool true,e.key,e.val]) w3∧RelH J2 S2 H2 w3∧Ext J S H w J2 S2 H2 w3∧Okr B ro ra2.defers w3∧
     w3.heap[r]?=some (.mapIter (some b) c (seenOf es (js++[j])) c)∧(Instr.entry (.pointer (some ⟨r,0,none⟩))).run P w3= .ok (.tuple #[e.key,e.val]) w3:=by
   cases bm with
   |none=>
    obtain⟨s,q,l,hr⟩:=hitr
    left
    refine⟨fun j hj=>absurd hj (by rw[hnil rfl];exact Nat.not_lt_zero _),?_⟩
    simp[Instr.next,getObj,Sem.run,hr,Result.andThen]
   |some bc=>
    obtain⟨b,c⟩:=bc
    obtain⟨hr,hS⟩:=hitr
    obtain⟨es',c',g1,g2⟩:=kno_m (hH2.sure _ _ hS).1
    obtain⟨rfl,rfl⟩:=mobj_inj g2
    have hold: ∀e∈es.toList,e.born<c:=by
     intro e he
     obtain⟨i,hi⟩:=List.getElem?_of_mem he
     rw[Array.getElem?_toList] at hi
     exact hborn b c rfl i e hi
    have hnb:(es.toList.map (·.born)).Nodup:=by
     rw[List.nodup_iff_pairwise_ne,List.pairwise_map,List.pairwise_iff_getElem]
     intro i j hi hj hij e
     have:=hris i j _ _ (by rw[←Array.getElem?_toList];exact List.getElem?_eq_getElem hi) (by rw[←Array.getElem?_toList];exact List.getElem?_eq_getElem hj) hij
     exact absurd e (Nat.ne_of_lt this)
    rcases run_next_at (P:=P) w2 y1 r b c c (seenOf es js) es c hr g1 hold (Nat.le_refl _) with ⟨h0,hrun⟩|⟨e,he,w1',hal,hrun⟩
    ·refine .inl ⟨fun j hj=>?_,hrun⟩
     have hL:leftOf es (seenOf es js)= #[]:=Array.eq_empty_of_size_eq_zero h0
     have hj':es[j]?=some es[j]:=by simp[hj]
     have:(seenOf es js).contains es[j].born=true:=by
      unfold leftOf at hL
      rw[Array.filter_eq_empty_iff] at hL
      have:=hL es[j] (by simp)
      simpa using this
     obtain⟨j2,h2,h3⟩:=seen_mem.1 this
     have hj2:=hlt j2 h2
     have hx2:es[j2]?=some es[j2]:=by simp[hj2]
     unfold bornAt at h3
     rw[hx2] at h3
     have:=hris.inj hx2 hj' h3
     rw[←this];exact h2
    ·right
     have hem:e∈es.toList∧(seenOf es js).contains e.born=false:=by
      unfold leftOf at he
      simpa using he
     obtain⟨j,hj⟩:=List.getElem?_of_mem hem.1
     rw[Array.getElem?_toList] at hj
     have hb:bornAt es j=e.born:=by unfold bornAt;rw[hj]
     have hjn:j∉js:=by
      intro h
      have:(seenOf es js).contains e.born=true:=seen_mem.2 ⟨j,h,hb⟩
      rw[hem.2] at this;cases this
     have hr1:w1'.heap=w2.heap:=by rcases hal with rfl|rfl<;>rfl
     have hrlt:r<w2.heap.size:=(Array.getElem?_eq_some_iff.1 hr).1
     obtain⟨q1,q2,q3⟩:=iter_step (w2:=setBlock w1' r (.mapIter (some b) c ((seenOf es js).push e.born) c)) hH2 hE2 hr hge (fun k hk=>by
      show(w1'.heap.setIfInBounds r _)[k]?=_
      rw[hr1,Array.getElem?_setIfInBounds_ne (fun e=>hk e.symm)]) (by show(w1'.heap.setIfInBounds r _).size=_;rw[hr1];simp) (by rcases hal with rfl|rfl<;>rfl) (by rcases hal with rfl|rfl<;>rfl) (by rcases hal with rfl|rfl<;>rfl)
     have hr3:(setBlock w1' r (.mapIter (some b) c ((seenOf es js).push e.born) c)).heap[r]?=some (.mapIter (some b) c ((seenOf es js).push e.born) c):=by
      show(w1'.heap.setIfInBounds r _)[r]?=_
      rw[hr1,Array.getElem?_setIfInBounds_self_of_lt hrlt]
     have hbr:b≠r:=fun e=>by rw[e,hr] at g1;cases g1
     have hb3:(setBlock w1' r (.mapIter (some b) c ((seenOf es js).push e.born) c)).heap[b]?=some (.map es c):=by
      show(w1'.heap.setIfInBounds r _)[b]?=_
      rw[hr1,Array.getElem?_setIfInBounds_ne (fun e=>hbr e.symm)];exact g1
     refine⟨b,c,j,e,_,rfl,hjn,hj,hrun,q1,q2,q3 _ _ _ hO2,?_,run_entry_at _ r b c (seenOf es js) es c e hr3 hb3 hem.1 hnb⟩
     rw[hr3,←hb,seenOf_push]
  refine wpIn_seq (wpIn_region_list ?_)
  show wpListIn _ _ _ _ _ [_,_] ra2 w2
  rcases step with ⟨hall,hrun⟩|⟨b,c,j,e,w3,hbm,hjn,hje,hrun,hH3,hE3,hO3,hr3,hent⟩
  ·refine rawop (u:= .tuple #[.bool false]) (w':=w2) (fun c e=>by cases e) rfl (by show(do pure (.value (←Instr.next (ra2.eval (.tmp tI)) false y1)):Sem Next).run P w2=_;rw[htI];simp[hrun]) ?_
   refine rawop (u:= .bool false) (w':=w2) (fun c e=>by cases e) rfl (by
    show(do pure (.value (←Instr.extract ((ra2.put (some tN) (.tuple #[.bool false])).eval (.tmp tN)) 0)):Sem Next).run P w2=_
    rw[ev1 _ _ _ (by rw[hsz2];exact gN)];simp[Instr.extract]) ?_
   show Code.wpIn _ _ _ _ _ _ _
   refine wpIn_seq (wpIn_cond_false (ev1 _ _ _ (by rw[sz1,hsz2];exact gB)) (wpIn_exit ?_))
   show Exit.inBlock bid (Post B ro Q J S H w) (.exit bid) _ w2
   simp only[Exit.inBlock,if_true]
   have hp:List.Perm js (List.range rows.length):=by rw[←hlen];exact perm_all hnd hlt hall
   exact⟨J2,S2,_,H2,hend _ _ _ _ hp hI,(hF2.put hasN (.junk _)).put (hasB _) (.bool false),hH2,hE2,hO2⟩
  ·have hjlt:j<es.size:=(Array.getElem?_eq_some_iff.1 hje).1
   obtain⟨k,v,hkv⟩:=hrows j rows[j] (by simp)
   have hrj:rows[j]?=some [k,v]:=by rw[←hkv];simp
   obtain⟨hvk,hvv⟩:=hval j e k v hje hrj
   refine rawop (u:= .tuple #[.bool true,e.key,e.val]) (w':=w3) (fun c e=>by cases e) rfl (by show(do pure (.value (←Instr.next (ra2.eval (.tmp tI)) false y1)):Sem Next).run P w2=_;rw[htI];simp[hrun]) ?_
   refine rawop (u:= .bool true) (w':=w3) (fun c e=>by cases e) rfl (by
    show(do pure (.value (←Instr.extract ((ra2.put (some tN) _).eval (.tmp tN)) 0)):Sem Next).run P w3=_
    rw[ev1 _ _ _ (by rw[hsz2];exact gN)];simp[Instr.extract]) ?_
   show Code.wpIn _ _ _ _ _ _ _
   refine wpIn_seq (wpIn_cond_true (ev1 _ _ _ (by rw[sz1,hsz2];exact gB)) (wpIn_skip ?_))
   show Code.wpIn _ _ _ _ _ _ _
   refine wpIn_block (wpIn_seq (wpIn_region_list ?_))
   show wpListIn _ _ _ _ _ [_,_,_] _ w3
   have hF3:RelF J2 S2 ((a2.put tN .junk).put tB (.bool true)) ((ra2.put (some tN) (.tuple #[.bool true,e.key,e.val])).put (some tB) (.bool true)):=(hF2.put hasN (.junk _)).put (hasB _) (.bool true)
   have htI3:((ra2.put (some tN) (.tuple #[.bool true,e.key,e.val])).put (some tB) (.bool true)).eval (.tmp tI)= .pointer (some ⟨r,0,none⟩):=by
    have:=hF3.val tI
    have g:((a2.put tN .junk).put tB (.bool true)).get tI= .real (.pointer (some ⟨r,0,none⟩)):=by
     simp only[Fr.put]
     rw[if_neg fun e=>hne.2.1 e.symm,if_neg fun e=>hne.1 e.symm,gI]
    rw[g] at this
    show Array.getD _ tI undef=_
    generalize Array.getD _ tI undef=u at this
    cases this;rfl
   refine rawop (u:= .tuple #[e.key,e.val]) (w':=w3) (fun c e=>by cases e) rfl (by
    show(do pure (.value (←Instr.entry (_:Value))):Sem Next).run P w3=_
    rw[htI3];simp[hent]) ?_
   have hu: ∃u iv,(#[e.key,e.val]:Array Value)[ix]?=some u∧([k,v]:List IV)[ix]?=some iv∧VR J2 S2 iv u:=by
    rcases ix with _|_|ix
    ·exact⟨_,_,rfl,rfl,hvk⟩
    ·exact⟨_,_,rfl,rfl,hvv⟩
    ·omega
   obtain⟨u,iv,hu1,hu2,hu3⟩:=hu
   have hperm: ∃rest,List.Perm (js++j::rest) (List.range rows.length):=by
    obtain⟨rest,hr⟩:=perm_rest (zze hnd hjn) (n:=rows.length) (fun i hi=>by
     rw[←hlen]
     rcases List.mem_append.1 hi with hi|hi
     ·exact hlt i hi
     ·rw[List.mem_singleton.1 hi];exact hjlt)
    exact⟨rest,by rw[List.append_cons];exact hr⟩
   refine rawop (u:=u) (w':=w3) (fun c e=>by cases e) rfl (by
    show(do pure (.value (←Instr.extract (Act.eval _ (.tmp tE)) ix)):Sem Next).run P w3=_
    rw[ev1 _ _ _ (by rw[sz1,sz1,hsz2];exact gE)];simp[Instr.extract,hu1]) ?_
   refine rawop (u:=u) (w':=w3) (fun c e=>by cases e) rfl (by
    show(pure (.value (Act.eval _ (.tmp tX))):Sem Next).run P w3=_
    rw[ev1 _ _ _ (by rw[sz1,sz1,sz1,hsz2];exact gX)];rfl) ?_
   show Code.wpIn _ _ _ _ _ _ _
   have hF4:RelF J2 S2 (rndFr a2 tN tB tE tX tV iv) (((((ra2.put (some tN) (.tuple #[.bool true,e.key,e.val])).put (some tB) (.bool true)).put (some tE) (.tuple #[e.key,e.val])).put (some tX) u).put (some tV) u):=
    RelF.put (d:=some tV) (RelF.put (d:=some tX) (RelF.put (d:=some tE) hF3 (by simp[Fr.has,Fr.put,gE]) (.junk _)) (by simp[Fr.has,Fr.put,Fr.putO,gX]) hu3) (by simp[Fr.has,Fr.put,Fr.putO,gV]) hu3
   refine wpIn_mono (hbody _ _ j [k,v] a2 H2 iv hrj hu2 hperm hI B ro J2 S2 _ w3 hF4 hH3 hO3) ?_
   rintro e2 ra4 w4 ⟨J4,S4,a4,H4,q,hF5,hH5,hE5,hO5⟩
   have hE6:Ext J S H w J4 S4 H4 w4:=hE3.trans hE5
   have next:I (.real (.pointer (some ⟨r,0,none⟩))) (js++[j]) a4 H4→ ∃m',m'<es.size-js.length∧ ∃js,m'=es.size-js.length∧Inv bm es r js ra4 w4:=by
    intro hq
    have hjs:=nodup_le hnd hlt
    have hjs2:js.length<es.size:=by
     rcases Nat.lt_or_eq_of_le hjs with h|h
     ·exact h
     ·exfalso
      have:=nodup_le (zze hnd hjn) (n:=es.size) (fun i hi=>by
       rcases List.mem_append.1 hi with hi|hi
       ·exact hlt i hi
       ·rw[List.mem_singleton.1 hi];exact hjlt)
      simp at this;omega
    refine⟨_,?_,js++[j],rfl,J4,S4,a4,H4,hq,hF5,hH5,hE6,hO5,?_,zze hnd hjn,fun i hi=>?_,fun i e k v h1 h2=>?_⟩
    ·simp;omega
    ·subst hbm
     have hob:=hE5.obj hH3 hr3 rfl trivial
     exact⟨hob,hE5.hS _ _ hitr.2⟩
    ·rcases List.mem_append.1 hi with hi|hi
     ·exact hlt i hi
     ·rw[List.mem_singleton.1 hi];exact hjlt
    ·obtain⟨q1,q2⟩:=hval i e k v h1 h2
     exact⟨q1.mono hE5.hJ hE5.hS,q2.mono hE5.hJ hE5.hS⟩
   cases e2 with
   |normal=>exact next q
   |exit i=>
    simp only[blockK] at q
    simp only[Exit.inBlock]
    split
    ·rename_i hi
     rw[if_pos hi] at q
     exact next q
    ·rename_i hi
     rw[if_neg hi] at q
     show Exit.then _ _ (.exit i) ra4 w4
     simp only[Exit.then,Exit.inBlock]
     split
     ·rename_i h2;rw[if_pos h2] at q;exact⟨J4,S4,a4,H4,q,hF5,hH5,hE6,hO5⟩
     ·rename_i h2;rw[if_neg h2] at q;exact⟨J4,S4,a4,H4,q,hF5,hH5,hE6,hO5⟩
   |_=>exact⟨J4,S4,a4,H4,q,hF5,hH5,hE6,hO5⟩
 refine vcOps_pre (B:=B) (J0:=J) (S0:=S) (H0:=H) (w0:=w) ?_ pre a H hpre J S ra w hF hH hO .refl
 rintro a1 H1 J1 S1 ra1 w1 ⟨hx,hI,hI0⟩ hF1 hH1 hO1 hE1
 have hv:=hF1.ev x
 rw[hx] at hv
 generalize hxu:ra1.eval x=u at hv
 have hok: ∀(o:Obj) (bm:Option (Nat×Nat)) (es:Array MapEntry),(Instr.range t u).run P w1= .ok (.pointer (some ⟨w1.heap.size,0,none⟩)) (w1.alloc o)→
   (match bm with|some (b,c)=>o= .mapIter (some b) c #[] c∧S1 (.m b) (mobj es c)|none=>o= .mapIter none 0 #[] 0)→es.size=rows.length→Rising es→(∀b c,bm=some (b,c)→ ∀(i:Nat) (e:MapEntry),es[i]?=some e→e.born<c)→(bm=none→es.size=0)→
   (∀(i:Nat) (row:List IV),rows[i]?=some row→ ∃k v,row=[k,v])→(∀(i:Nat) (e:MapEntry) (k v:IV),es[i]?=some e→rows[i]?=some [k,v]→VR J1 S1 k e.key∧VR J1 S1 v e.val)→
   wpListIn (FX ro) 0 P (pre++[(⟨some tI,.range t x,y0,p0,f0,none⟩:Oper)]).toArray (fun e ra' w'=>e= .normal∧ ∃bm es r,w.heap.size≤r∧es.size=rows.length∧Rising es∧(∀b c,bm=some (b,c)→ ∀(i:Nat) (e:MapEntry),es[i]?=some e→e.born<c)∧(bm=none→es.size=0)∧(∀(i:Nat) (row:List IV),rows[i]?=some row→ ∃k v,row=[k,v])∧Inv bm es r [] ra' w') [(⟨some tI,.range t x,y0,p0,f0,none⟩:Oper)] ra1 w1:=by
  intro o bm es hrun hbm h1 h2 h3 h4 h5 h6
  obtain⟨q1,q2⟩:=alloc_rel hH1 o
  refine rawop (u:= .pointer (some ⟨w1.heap.size,0,none⟩)) (w':=w1.alloc o) (fun c e=>by cases e) rfl (by
   show(do pure (.value (←Instr.range t (ra1.eval x))):Sem Next).run P w1=_
   rw[hxu];simp[hrun]) ?_
  show(Exit.normal=Exit.normal)∧_
  refine⟨rfl,bm,es,w1.heap.size,hE1.size,h1,h2,h3,h4,h5,J1,S1,_,H1,hI0 _,RelF.put (d:=some tI) hF1 (decide_eq_true hI) (.real _),q1,hE1.trans q2,hO1.ext hH1 q2,?_,List.nodup_nil,fun j hj=>(by cases hj),h6⟩
  have hr:(w1.alloc o).heap[w1.heap.size]?=some o:=heap_alloc_new w1 o
  cases bm with
  |none=>rw[hr,hbm];exact⟨_,_,_,rfl⟩
  |some bc=>rw[hr,hbm.1];exact⟨rfl,hbm.2⟩
 cases hv with
 |mimnil=>
  exact hok _ none #[] (run_range_nilMap w1 t kt et hu) rfl rfl (fun i j x y hi=>by simp at hi) (fun b c e=>by cases e) (fun _=>rfl) (fun i row hi=>by simp at hi) (fun i e k v hi=>by simp at hi)
 |mim hS hl ho hb hr hK hV=>
  rename_i b es c
  obtain⟨es',c',g1,g2⟩:=kno_m (hH1.sure _ _ hS).1
  obtain⟨rfl,rfl⟩:=mobj_inj g2
  exact hok _ (some (b,c)) es (run_range_map w1 t kt et b es c hu g1) ⟨rfl,hS⟩ hl ho (fun b' c' e=>by cases e;exact hb) (fun e=>by cases e) hr (fun i e k v h1 h2=>⟨hK i e k v h1 h2,hV i e k v h1 h2⟩)
theorem W_rmap'{P:Program}{Q:Exit→Fr→Heap→Prop}{a:Fr}{H:Heap}{ops0:Array Oper}(pre:List Oper){x:Operand}{t kt et:TypeId}{tI tN tB tE tX tV bid b2 r0 r1 r2 ix:Nat}{y0 y1 y2 y3 y4 y5:TypeId}{p0 p1 p2 p3 p4 p5:String}{f0 f1 f2 f3 f4 f5:Array Edge}{body:Code}{rows:List (List IV)}
  (I:IV→List Nat→Fr→Heap→Prop) (hops:ops0=(pre++[(⟨some tI,.range t x,y0,p0,f0,none⟩:Oper)]).toArray) (hu:P.underlying t=some (.map kt et)) (hix:ix<2)
  (hpre:vcO P ops0 none pre (fun a1 H1=>a1.ev x= .mim rows∧tI<a1.n∧ ∀it,I it [] (a1.put tI it) H1) a H)
  (hit: ∀it p a H,I it p a H→a.get tI=it∧tN<a.n∧tB<a.n∧tE<a.n∧tX<a.n∧tV<a.n) (hne:tN≠tI∧tB≠tI∧tN≠tB∧tE≠tX)
  (hbody: ∀it p j row a H v,rows[j]?=some row→row[ix]?=some v→(∃rest,List.Perm (p++j::rest) (List.range rows.length))→I it p a H→W P body (blockK b2 fun e a' H'=>match e with| .normal=>I it (p++[j]) a' H'|e=>blockK bid Q e a' H') (rndFr a tN tB tE tX tV v) H)
  (hend: ∀it p a H,List.Perm p (List.range rows.length)→I it p a H→Q .normal ((a.put tN .junk).put tB (.bool false)) H):
  W P (.seq (.region r0 ops0 false) (.block bid (.loop (.seq (.region r1 #[⟨some tN,.next (.tmp tI) false,y1,p1,f1,none⟩,⟨some tB,.extract (.tmp tN) 0,y2,p2,f2,none⟩] false)
   (.seq (.cond (.tmp tB) .skip (.exit bid)) (.block b2 (.seq (.region r2 #[⟨some tE,.entry (.tmp tI),y3,p3,f3,none⟩,⟨some tX,.extract (.tmp tE) ix,y4,p4,f4,none⟩,⟨some tV,.assign (.tmp tX),y5,p5,f5,none⟩] false) body))))))) Q a H:=by
 subst hops
 exact W_rmap I hu hix (yd _ _ _ hpre) hit hne hbody hend
end Go.Proofs.Ytoojnagdenoknaa.IL
