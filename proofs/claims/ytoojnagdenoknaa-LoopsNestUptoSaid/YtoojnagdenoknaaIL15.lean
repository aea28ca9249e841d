/- The ideal logic, part 15: regions that draw their order, joined; code as conditions. Nothing here speaks of a given program. -/
import Derived.Test.YtoojnagdenoknaaIL14
set_option linter.unusedSectionVars false
set_option linter.unnecessarySimpa false
set_option linter.unusedVariables false
set_option linter.unusedSimpArgs false
namespace Go.Proofs.Ytoojnagdenoknaa.IL
open Go Go.RowKit
def drawOk(s:Bool)(n':Nat)(ops:Array Oper):Bool:=
 (List.range ops.size).all fun i=>match ops[i]? with
  |none=>false
  |some oi=>
   (oi.after.all fun e=>!Region.binds .any e||decide (e.on<i))&&
   (if i<n' then
    ((List.range i).all fun j=>match ops[j]? with
     |none=>false
     |some oj=>
      (match oj.dst with
       |some d=>oi.dst !=some d&&(!(oi.looksAt ops).contains d||waitsFor oi j)
       |none=>true)&&
      (match oi.dst with
       |some d=>!(oj.looksAt ops).contains d
       |none=>true)&&
      (waitsT ops ops.size oi j||!((!s&&isSt oi.op&&reads oj.op)||(isSt oj.op&&reads oi.op))))&&
    (match oi.dst with
     |some d=>!(oi.looksAt ops).contains d
     |none=>true)
   else(List.range i).all fun j=>waitsT ops ops.size oi j)
section facts
variable {s:Bool} {n':Nat} {ops:Array Oper} (h:drawOk s n' ops=true)
include h
theorem dk(i:Nat)(oi:Oper)(hi:ops[i]?=some oi):(∀e∈oi.after,Region.binds .any e=true→e.on<i)∧
  (i<n'→(∀j oj,j<i→ops[j]?=some oj→(∀d,oj.dst=some d→oi.dst≠some d∧(d∈oi.looksAt ops→waitsFor oi j=true))∧(∀d,oi.dst=some d→d∉oj.looksAt ops)∧(waitsT ops ops.size oi j=true∨(s=false→isSt oi.op=true→reads oj.op=false)∧(isSt oj.op=true→reads oi.op=false)))∧(∀d,oi.dst=some d→d∉oi.looksAt ops))∧
  (n'≤i→ ∀j,j<i→waitsT ops ops.size oi j=true):=by
 have hlt:i<ops.size:=(Array.getElem?_eq_some_iff.1 hi).1
 unfold drawOk at h
 rw[List.all_eq_true] at h
 have h:=h i (by simpa using hlt)
 rw[hi] at h
 simp only[Bool.and_eq_true] at h
 obtain⟨h1,h2⟩:=h
 refine⟨?_,?_,?_⟩
 ·intro e he hb
  rw[Array.all_eq_true_iff_forall_mem] at h1
  have:=h1 e he
  simp only[hb,Bool.not_true,Bool.false_or,decide_eq_true_eq] at this
  exact this
 ·intro hn
  rw[if_pos hn] at h2
  simp only[Bool.and_eq_true] at h2
  obtain⟨h2,h3⟩:=h2
  constructor
  ·intro j oj hj hoj
   rw[List.all_eq_true] at h2
   have h2:=h2 j (by simpa using hj)
   rw[hoj] at h2
   simp only[Bool.and_eq_true] at h2
   obtain⟨⟨a1,a2⟩,a3⟩:=h2
   refine⟨?_,?_,?_⟩
   ·intro d hd
    rw[hd] at a1
    simp only[Bool.and_eq_true,bne_iff_ne,Bool.or_eq_true,Bool.not_eq_true'] at a1
    refine⟨a1.1,fun hm=>?_⟩
    rcases a1.2 with a|a
    ·rw[List.contains_eq_mem] at a
     simp[hm] at a
    ·exact a
   ·intro d hd
    rw[hd] at a2
    simp only[Bool.not_eq_true',List.contains_eq_mem,decide_eq_false_iff_not] at a2
    exact a2
   ·rw[Bool.or_eq_true] at a3
    rcases a3 with a3|a3
    ·exact .inl a3
    ·right
     simp only[Bool.not_eq_true',Bool.or_eq_false_iff,Bool.and_eq_false_iff] at a3
     refine⟨fun hs0 hs=>?_,fun hs=>?_⟩
     ·rcases a3.1 with a|a
      ·simp[hs,hs0] at a
      ·exact a
     ·rcases a3.2 with a|a
      ·rw[hs] at a;cases a
      ·exact a
  ·intro d hd
   rw[hd] at h3
   simp only[Bool.not_eq_true',List.contains_eq_mem,decide_eq_false_iff_not] at h3
   exact h3
 ·intro hn j hj
  rw[if_neg (by omega),List.all_eq_true] at h2
  exact h2 j (by simpa using hj)
end facts
theorem waits_mem{o:Oper}{j:Nat}(h:waitsFor o j=true): ∃e∈o.after,Region.binds .any e=true∧e.on=j:=by
 unfold waitsFor at h
 rw[Array.any_eq_true] at h
 obtain⟨i,hi,he⟩:=h
 simp only[Bool.and_eq_true,beq_iff_eq] at he
 exact⟨_,Array.getElem_mem hi,he.1,he.2⟩
theorem mem_ready{ops:Array Oper}{listed:Array Bool}{i:Nat}:i∈Region.ready .any ops listed↔i<ops.size∧listed.getD i true=false∧ ∀oi,ops[i]?=some oi→ ∀e∈oi.after,Region.binds .any e=true→listed.getD e.on false=true:=by
 unfold Region.ready
 rw[List.mem_filter]
 simp only[List.mem_range,Bool.and_eq_true,Bool.not_eq_true']
 constructor
 ·rintro⟨h1,h2,h3⟩
  refine⟨h1,h2,fun oi hoi e he hb=>?_⟩
  rw[hoi] at h3
  simp only[Option.map_some,Option.getD_some,Array.all_eq_true_iff_forall_mem] at h3
  have:=h3 e he
  simpa [hb] using this
 ·rintro⟨h1,h2,h3⟩
  refine⟨h1,h2,?_⟩
  have hoi:ops[i]?=some ops[i]:=by simp[h1]
  rw[hoi]
  simp only[Option.map_some,Option.getD_some,Array.all_eq_true_iff_forall_mem]
  intro e he
  by_cases hb:Region.binds .any e=true
  ·simp[h3 _ hoi e he hb]
  ·simp[hb]
theorem yE{ops:Array Oper}{listed:Array Bool}(hcl: ∀q oq,ops[q]?=some oq→listed.getD q false=true→ ∀e∈oq.after,Region.binds .any e=true→listed.getD e.on false=true):
  ∀(n:Nat) (o:Oper) (j:Nat),(∀e∈o.after,Region.binds .any e=true→listed.getD e.on false=true)→waitsT ops n o j=true→listed.getD j false=true
 |0,_,_,_,h=>by cases h
 |n+1,o,j,ho,h=>by
  rw[waitsT,Bool.or_eq_true] at h
  rcases h with h|h
  ·obtain⟨e,he,hb,heq⟩:=waits_mem h
   rw[←heq];exact ho e he hb
  ·rw[Array.any_eq_true] at h
   obtain⟨i,hi,he⟩:=h
   rw[Bool.and_eq_true] at he
   obtain⟨hb,hm⟩:=he
   have hmem:=Array.getElem_mem hi
   split at hm
   ·rename_i oe hoe
    exact yE hcl n oe j (hcl _ oe hoe (ho _ hmem hb)) hm
   ·cases hm
theorem any_tail{P:Program}{ops:Array Oper}{s:Bool}{n':Nat}(hk:drawOk s n' ops=true){Q:Exit→Fr→Heap→Prop}{J0:Inj}{S0:Sure}{H0:Heap}{w0:World}: ∀(m k:Nat),n'≤k→k+m=ops.size→ ∀(listed:Array Bool),listed.size=ops.size→
  (∀i,i<k→listed.getD i true=true)→(∀i,k≤i→i<ops.size→listed.getD i true=false)→ ∀a H,vcOps P ops (ops.toList.drop k) (Q .normal) a H→ ∀B ro J S ra w,RelF J S a ra→RelH J S H w→Okr B ro ra.defers w→Ext J0 S0 H0 w0 J S H w→
  wpAnyIn (FX ro) 0 P .any ops (Post B ro Q J0 S0 H0 w0) m listed ra w
 |0,k,hn,hm,listed,hsz,h1,h2,a,H,hv,B,ro,J,S,ra,w,hF,hH,hO,hE=>by
  refine⟨?_,?_⟩
  ·apply List.eq_nil_iff_forall_not_mem.2
   intro i hi
   obtain⟨hi1,hi2,_⟩:=mem_ready.1 hi
   rw[h1 i (by omega)] at hi2;cases hi2
  ·rw[List.drop_eq_nil_of_le (by simp;omega)] at hv
   exact⟨J,S,a,H,hv,hF,hH,hE,hO⟩
 |m+1,k,hn,hm,listed,hsz,h1,h2,a,H,hv,B,ro,J,S,ra,w,hF,hH,hO,hE=>by
  have hlt:k<ops.size:=by omega
  have hok:ops[k]?=some ops[k]:=by simp[hlt]
  have hdrop:ops.toList.drop k=ops[k]::ops.toList.drop (k+1):=by
   rw[List.drop_eq_getElem_cons (by simpa using hlt)];simp
  rw[hdrop] at hv
  obtain⟨hd,hv⟩:=hv
  constructor
  ·intro hnil
   exfalso
   have:k∈Region.ready .any ops listed:=by
    refine mem_ready.2 ⟨hlt,h2 k (Nat.le_refl _) hlt,fun oi hoi e he hb=>?_⟩
    have:=(dk hk k oi hoi).1 e he hb
    have:=h1 e.on this
    have hsz':e.on<listed.size:=by omega
    simpa [Array.getD,hsz'] using this
   rw[hnil] at this;cases this
  ·intro i hi
   obtain⟨hi1,hi2,hi3⟩:=mem_ready.1 hi
   have hik:i=k:=by
    rcases Nat.lt_trichotomy i k with h|h|h
    ·rw[h1 i h] at hi2;cases hi2
    ·exact h
    ·exfalso
     have hoi:ops[i]?=some ops[i]:=by simp[hi1]
     have hg: ∀q,q<k→listed.getD q false=true:=fun q hq=>by
      have hq1:=h1 q hq
      have hq2:q<listed.size:=by omega
      simpa [Array.getD,hq2] using hq1
     have hng: ∀q,k≤q→listed.getD q false=true→False:=fun q hq hl=>by
      by_cases hqs:q<ops.size
      ·have hq1:=h2 q hq hqs
       have hq2:q<listed.size:=by omega
       simp only[Array.getD,hq2,dif_pos] at hq1 hl
       rw[hl] at hq1;cases hq1
      ·have hq2: ¬q<listed.size:=by omega
       simp[Array.getD,hq2] at hl
     have:=yE (listed:=listed) (fun q oq hoq hl e he hb=>hg _ (by
      have hqk:q<k:=by
       rcases Nat.lt_or_ge q k with hq|hq
       ·exact hq
       ·exact(hng q hq hl).elim
      have:=(dk hk q oq hoq).1 e he hb
      omega)) _ _ k (fun e he hb=>hi3 _ hoi e he hb) ((dk hk i _ hoi).2.2 (by omega) k h)
     have h2':=h2 k (Nat.le_refl _) hlt
     have hsz':k<listed.size:=by omega
     simp[Array.getD,hsz'] at this h2'
     rw[this] at h2';cases h2'
   subst hik
   have next: ∀a' H',vcOps P ops (ops.toList.drop (i+1)) (Q .normal) a' H'→ ∀J S ra w,RelF J S a' ra→RelH J S H' w→Okr B ro ra.defers w→Ext J0 S0 H0 w0 J S H' w→wpAnyIn (FX ro) 0 P .any ops (Post B ro Q J0 S0 H0 w0) m (listed.setIfInBounds i true) ra w:=by
    intro a' H' hv' J S ra w hF hH hO hE
    refine any_tail hk m (i+1) (by omega) (by omega) _ (by simpa using hsz) (fun q hq=>?_) (fun q hq hq'=>?_) a' H' hv' B ro J S ra w hF hH hO hE
    ·by_cases e:q=i
     ·subst e
      have hq':q<listed.size:=by omega
      simp[Array.getD,hq']
     ·have:=h1 q (by omega)
      have hq':q<listed.size:=by omega
      simp only[Array.getD,hq',dif_pos,Array.size_setIfInBounds] at this ⊢
      rw[←this]
      exact Array.getElem_setIfInBounds_ne hq' (Ne.symm e)
    ·have:=h2 q (by omega) hq'
     have hq'':q<listed.size:=by omega
     simp only[Array.getD,hq'',dif_pos,Array.size_setIfInBounds] at this ⊢
     rw[←this]
     exact Array.getElem_setIfInBounds_ne hq'' (by omega)
   unfold wpOpIn
   simp only[hok]
   unfold wantK at hv
   split at hv
   ·rename_i hw
    rw[yB hw hF,if_pos rfl]
    refine yi hv hF hH ?_ ro
    intro v H' J' S' u w' hv' hvr hH' hE'
    exact next _ _ hv' J' S' _ w' ((hF.mono hE'.hJ hE'.hS).put hd hvr) hH' (by rw[yC];exact hO.ext hH hE') (hE.trans hE')
   ·rename_i hw
    rw[yB hw hF,if_neg (by simp)]
    exact⟨fun _ _=>trivial,next _ _ hv J S _ w (hF.put hd (.undef _ _)) hH (by rw[yC];exact hO) hE⟩
   ·exact hv.elim
theorem getD_set{listed:Array Bool}{i q:Nat}(hq:q<listed.size):(listed.setIfInBounds i true).getD q true=if q=i then true else listed.getD q true:=by
 by_cases e:q=i
 ·subst e;simp[Array.getD,hq]
 ·simp only[Array.getD,hq,dif_pos,Array.size_setIfInBounds,if_neg e]
  exact Array.getElem_setIfInBounds_ne hq (Ne.symm e)
theorem any_pre{P:Program}{ops:Array Oper}{s:Bool}{n':Nat}(hk:drawOk s n' ops=true)(hn:n'≤ops.size){Q:Exit→Fr→Heap→Prop}{J0:Inj}{S0:Sure}{H0:Heap}{w0:World}: ∀(m:Nat) (rem:List Nat),rem.length=m→ ∀(listed:Array Bool),listed.size=ops.size→
  rem=(List.range n').filter (fun i=>!listed.getD i true)→(∀i,n'≤i→i<ops.size→listed.getD i true=false)→
  (∀q oq,ops[q]?=some oq→listed.getD q false=true→ ∀e∈oq.after,Region.binds .any e=true→listed.getD e.on false=true)→
  ∀a H,vcPre P ops [] rem (fun a H=>vcOps P ops (ops.toList.drop n') (Q .normal) a H) a H→ ∀B ro J S ra w,RelF J S a ra→RelH J S H w→Okr B ro ra.defers w→Ext J0 S0 H0 w0 J S H w→
  wpAnyIn (FX ro) 0 P .any ops (Post B ro Q J0 S0 H0 w0) (m+(ops.size-n')) listed ra w
 |0,rem,hm,listed,hsz,hrem,h2,hcl,a,H,hv,B,ro,J,S,ra,w,hF,hH,hO,hE=>by
  have:rem=[]:=List.length_eq_zero_iff.1 hm
  rw[this] at hv hrem
  rw[Nat.zero_add]
  refine any_tail hk (ops.size-n') n' (Nat.le_refl _) (by omega) listed hsz (fun i hi=>?_) h2 a H hv B ro J S ra w hF hH hO hE
  have:=(List.filter_eq_nil_iff.1 hrem.symm) i (by simpa using hi)
  simpa using this
 |m+1,rem,hm,listed,hsz,hrem,h2,hcl,a,H,hv,B,ro,J,S,ra,w,hF,hH,hO,hE=>by
  have hmem: ∀q,q∈rem↔q<n'∧listed.getD q true=false:=by
   intro q;rw[hrem,List.mem_filter];simp
  have hsort:rem.Pairwise (· < ·):=by rw[hrem];exact List.pairwise_lt_range.filter _
  have hgf: ∀q,q<ops.size→listed.getD q false=listed.getD q true:=by
   intro q hq
   have:q<listed.size:=by omega
   simp[Array.getD,this]
  rw[show m+1+(ops.size-n')=(m+(ops.size-n'))+1 by omega]
  obtain⟨h0,tl,hcons⟩: ∃h0 tl,rem=h0::tl:=by
   cases rem with
   |nil=>simp at hm
   |cons x xs=>exact⟨x,xs,rfl⟩
  have h0mem:h0∈rem:=by rw[hcons];simp
  obtain⟨h0n,h0l⟩:=(hmem h0).1 h0mem
  constructor
  ·intro hnil
   exfalso
   have:h0∈Region.ready .any ops listed:=by
    refine mem_ready.2 ⟨by omega,h0l,fun oi hoi e he hb=>?_⟩
    have hlt:=(dk hk h0 oi hoi).1 e he hb
    rw[hgf _ (by omega)]
    by_cases hl:listed.getD e.on true=true
    ·exact hl
    ·exfalso
     have:e.on∈rem:=(hmem _).2 ⟨by omega,by simpa using hl⟩
     rw[hcons] at this hsort
     rcases List.mem_cons.1 this with h|h
     ·omega
     ·have:=(List.pairwise_cons.1 hsort).1 _ h
      omega
   rw[hnil] at this;cases this
  ·intro i hi
   obtain⟨hi1,hi2,hi3⟩:=mem_ready.1 hi
   have hoi:ops[i]?=some ops[i]:=by simp[hi1]
   have hin:i<n':=by
    rcases Nat.lt_or_ge i n' with h|h
    ·exact h
    ·exfalso
     have:=yE hcl _ _ h0 (fun e he hb=>hi3 _ hoi e he hb) ((dk hk i _ hoi).2.2 h h0 (by omega))
     rw[hgf _ (by omega),h0l] at this
     cases this
   have himem:i∈rem:=(hmem i).2 ⟨hin,hi2⟩
   obtain⟨pre,post,hsplit⟩:=List.append_of_mem himem
   have hs2:(pre++i::post).Pairwise (· < ·):=hsplit▸hsort
   obtain⟨s1,s2,s3⟩:=List.pairwise_append.1 hs2
   have hpre: ∀j∈pre,j<i:=fun j hj=>s3 j hj i (by simp)
   have hpost: ∀j∈post,i<j:=fun j hj=>(List.pairwise_cons.1 s2).1 j hj
   have hprel: ∀j∈pre,j<n'∧listed.getD j true=false:=fun j hj=>(hmem j).1 (by rw[hsplit];simp[hj])
   have hnot: ∀j∈pre,waitsFor ops[i] j=false:=by
    intro j hj
    cases hw:waitsFor ops[i] j with
    |false=>rfl
    |true=>
     exfalso
     obtain⟨e,he,hb,heq⟩:=waits_mem hw
     have:=hi3 _ hoi e he hb
     rw[heq,hgf _ (by have:=(hprel j hj).1;omega),(hprel j hj).2] at this
     cases this
   have hnotT: ∀j∈pre,¬waitsT ops ops.size ops[i] j=true:=by
    intro j hj hw
    have:=yE hcl _ _ j (fun e he hb=>hi3 _ hoi e he hb) hw
    rw[hgf _ (by have:=(hprel j hj).1;omega),(hprel j hj).2] at this
    cases this
   obtain⟨k1,k2,k3⟩:=dk hk i _ hoi
   obtain⟨k2a,k2b⟩:=k2 hin
   rw[hsplit] at hv
   obtain⟨v,H',hst,hrest⟩:=exch hoi pre [] a H
    (fun j hj oj hoj=>by
     obtain⟨x1,x2,x3⟩:=k2a j oj (hpre j hj) hoj
     have x4:=x3.resolve_left (hnotT j hj)
     exact⟨fun d hd=>(x1 d hd).1,fun d hd hm=>(by have:=(x1 d hd).2 hm;rw[hnot j hj] at this;cases this),x2,((dk hk j oj hoj).2.1 (hprel j hj).1).2,x4.2,by cases hq:waitsT ops ops.size ops[i] j with|true=>exact absurd hq (hnotT j hj)|false=>rfl⟩)
    (fun k hk' ok hok d hd=>(k2a k ok (hpre k (by simpa using hk')) hok).2.1 d hd)
    (fun j hj oj hoj k hk'=>by cases hk')
    (fun p q ⟨l1,l2,l3,e⟩ op oq hop hoq d hd=>by
     have hq:q∈pre:=by rw[e];simp
     have hpq:p<q:=by
      rw[e] at s1
      have:=(List.pairwise_append.1 s1).1
      have:=(List.pairwise_append.1 this).2.2
      rw[List.append_assoc] at s1
      have h3:=(List.pairwise_append.1 s1).2.1
      exact(List.pairwise_cons.1 h3).1 q (by simp)
     exact(((dk hk q oq hoq).2.1 (hprel q hq).1).1 p op hpq hop).2.1 d hd)
    ⟨J,S,ra,w,hF,hH⟩ hv
   refine hst.sound hoi hF hH ?_ ro
   intro J' S' ra' w' hF' hH' hE' hd'
   have hrem':pre++post=(List.range n').filter (fun q=>!(listed.setIfInBounds i true).getD q true):=by
    have e1:(List.range n').filter (fun q=>!(listed.setIfInBounds i true).getD q true)=rem.filter (fun q=>decide (q≠i)):=by
     rw[hrem,List.filter_filter]
     apply List.filter_congr
     intro q hq
     have hq':q<listed.size:=by simp at hq;omega
     rw[getD_set hq']
     by_cases e:q=i<;>simp[e]
    rw[e1,hsplit,List.filter_append,List.filter_cons_of_neg (by simp),List.filter_eq_self.2 (fun x hx=>by have:=hpre x hx;simp;omega),List.filter_eq_self.2 (fun x hx=>by have:=hpost x hx;simp;omega)]
   have hlen:(pre++post).length=m:=by
    rw[hsplit] at hm
    simp at hm ⊢
    omega
   exact any_pre hk hn m (pre++post) hlen _ (by simpa using hsz) hrem' (fun q hq hq'=>by rw[getD_set (by omega),if_neg (by omega)];exact h2 q hq hq') (fun q oq hoq hl e he hb=>by
    have hqs:q<ops.size:=(Array.getElem?_eq_some_iff.1 hoq).1
    have hes:e.on<ops.size:=by have:=(dk hk q oq hoq).1 e he hb;omega
    have hset: ∀r,r<ops.size→(listed.setIfInBounds i true).getD r false=if r=i then true else listed.getD r false:=fun r hr=>by
     have hr':r<listed.size:=by omega
     by_cases e:r=i
     ·subst e;simp[Array.getD,hr']
     ·simp only[Array.getD,hr',dif_pos,Array.size_setIfInBounds,if_neg e]
      exact Array.getElem_setIfInBounds_ne hr' (Ne.symm e)
    rw[hset _ hes]
    split
    ·rfl
    ·rw[hset _ hqs] at hl
     by_cases hqi:q=i
     ·subst hqi
      exact hi3 oq hoq e he hb
     ·rw[if_neg hqi] at hl
      exact hcl q oq hoq hl e he hb) _ H' hrest B ro J' S' ra' w' hF' hH' (by rw[hd'];exact hO.ext hH hE') (hE.trans hE')
theorem W_draw{P:Program}{Q:Exit→Fr→Heap→Prop}{a:Fr}{H:Heap}{id n':Nat}{s:Bool}{ops:Array Oper}(hm:P.follows .mixedOrders=true)(hk:drawOk s n' ops=true)(hn:n'≤ops.size)
  (h:vcPre P ops [] (List.range n') (fun a H=>vcOps P ops (ops.toList.drop n') (Q .normal) a H) a H):W P (.region id ops true) Q a H:=by
 intro B ro J S ra w hF hH hO
 obtain⟨d1,d2⟩:=drew_rel hH
 refine wpIn_region_any hm ?_
 have:=any_pre (P:=P) hk hn (Q:=Q) n' (List.range n') (by simp) (Array.replicate ops.size false) (by simp)
  (by
   symm
   apply List.filter_eq_self.2
   intro q hq
   have:q<ops.size:=by simp at hq;omega
   simp[Array.getD,this])
  (fun i _ hi=>by simp[Array.getD,hi]) (fun q oq hoq hl=>by
   have hqs:q<ops.size:=(Array.getElem?_eq_some_iff.1 hoq).1
   simp[Array.getD,hqs] at hl) a H h B ro J S ra w.drew hF d1 (hO.ext hH d2) d2
 rw[show n'+(ops.size-n')=ops.size by omega] at this
 exact this
end Go.Proofs.Ytoojnagdenoknaa.IL
