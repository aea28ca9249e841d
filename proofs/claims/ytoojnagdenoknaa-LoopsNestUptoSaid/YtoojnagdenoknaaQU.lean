/- The layer of owned parts, part 7: regions that draw their order, where parts go from operation to operation. Nothing here speaks of a given program. -/
import Derived.Test.YtoojnagdenoknaaQS
set_option linter.unusedSectionVars false
set_option linter.unnecessarySimpa false
set_option linter.unusedVariables false
set_option linter.unusedSimpArgs false
set_option linter.defProp false
namespace Go.Proofs.Ytoojnagdenoknaa.IL
open Go Go.RowKit PL
section eqs
variable {P:Program} {ops:Array Oper} {o:Oper} {a a':Fr} {H:Heap}
theorem ev_eq(h: ∀t∈o.looksAt ops,a'.get t=a.get t){x:Operand}(hx:x∈o.op.operands.toList):a'.ev x=a.ev x:=by
 cases x with
 |tmp s=>
  have:=h s (List.mem_append_left _ (List.mem_filterMap.2 ⟨.tmp s,hx,rfl⟩))
  simpa [Fr.ev] using this
 |_=>rfl
theorem iwant_eq(hn:a'.n=a.n)(h: ∀t∈o.looksAt ops,a'.get t=a.get t):iwant ops o a'=iwant ops o a:=by
 unfold iwant
 split
 ·rfl
 ·rename_i j want hg
  split
  ·rfl
  ·rename_i s hs
   rw[hn,h s (by simp[Oper.looksAt,hg,hs])]
theorem icallee_eq(h: ∀t∈o.looksAt ops,a'.get t=a.get t){c:Call}(hc:o.op= .call c):icallee a' c=icallee a c∧iyield a' c=iyield a c:=by
 have hop:o.op.operands=c.operands:=by rw[hc];rfl
 have hev: ∀x∈c.operands.toList,a'.ev x=a.ev x:=fun x hx=>ev_eq h (by rw[hop];exact hx)
 unfold icallee iyield
 constructor
 ·split
  ·rename_i x hx
   rw[hev x (by simp[Call.operands,hx])]
   rw[List.map_congr_left (g:=a.ev) (fun y hy=>hev y (by simp[Call.operands,hx];exact .inr (by simpa using hy)))]
  ·rfl
 ·split
  ·rename_i x hx
   rw[hev x (by simp[Call.operands,hx])]
   rw[List.map_congr_left (g:=a.ev) (fun y hy=>hev y (by simp[Call.operands,hx];exact .inr (by simpa using hy)))]
  ·rfl
theorem stepK_eq{K:IV→Heap→Prop}(hb:a'.b=a.b)(h: ∀t∈o.looksAt ops,a'.get t=a.get t)(k:stepK P o a H K):stepK P o a' H K:=by
 have hev: ∀x∈o.op.operands.toList,a'.ev x=a.ev x:=fun x hx=>ev_eq h hx
 unfold stepK at k ⊢
 cases he:iop P o a H with
 |some r=>
  obtain⟨v,e⟩:=r
  rw[he] at k
  rw[iop_local he hev (fun id b hb _ _=>hb) hb (fun _=>rfl)]
  simp only at k ⊢
  rw[hb];exact k
 |none=>
  have h2:iop P o a' H=none:=by
   cases h2:iop P o a' H with
   |none=>rfl
   |some r=>
    have:=iop_local (a':=a) h2 (fun x hx=>(hev x hx).symm) (fun id b hb _ _=>hb) hb.symm (fun _=>rfl)
    rw[he] at this;cases this
  rw[he] at k;rw[h2]
  simp only at k ⊢
  split at k
  ·rename_i c hc
   simp only[hc,(icallee_eq h hc).1,(icallee_eq h hc).2]
   exact k
  ·exact k.elim
end eqs
section mono
variable {P:Program} {ops:Array Oper}
theorem stepM_mono{m:Mo}{o:Oper}{a:Fr}{H:Heap}{K K':IV→Heap→Prop}(hk: ∀v H,K v H→K' v H)(h:stepM P m o a H K):stepM P m o a H K':=by
 unfold stepM at*
 revert h
 cases iop P o a H with
 |some r=>exact fun h=>⟨h.1,hk _ _ h.2⟩
 |none=>
  cases o.op with
  |call c=>
   simp only
   cases icallee a c with
   |some r=>
    cases m with
    |none=>exact fun h=>CallW.mono h hk
    |some p=>exact fun⟨v,h1,h2⟩=>⟨v,h1,hk _ _ h2⟩
   |none=>
    simp only
    cases iyield a c with
    |some r=>
     cases m with
     |none=>exact fun h=>YW.mono h hk
     |some p=>exact fun h=>h
    |none=>exact fun h=>h
  |_=>exact fun h=>h
theorem vcO_mono{K K':Fr→Heap→Prop}(hk: ∀a H,K a H→K' a H): ∀{m:Mo} {l:List Oper} {a:Fr} {H:Heap},vcO P ops m l K a H→vcO P ops m l K' a H
 |m,[],a,H,h=>hk _ _ h
 |m,o::rest,a,H,h=>⟨h.1,kj (stepM_mono fun v H h=>vcO_mono hk h) (fun h=>vcO_mono hk h) h.2⟩
end mono
def dvs:List Oper→List IV→List (Nat×IV)→List (Nat×IV)
 |o::l,v::vs,r=>match o.dst with
  |some d=>(d,v)::dvs l vs r
  |none=>dvs l vs r
 |_,_,r=>r
theorem dvs_some(d:Tmp)(op:Op)(ty:TypeId)(pos:String)(af:Array Edge)(g:Option (Nat×Bool))(l:List Oper)(v:IV)(vs:List IV)(r:List (Nat×IV)):dvs (⟨some d,op,ty,pos,af,g⟩::l) (v::vs) r=(d,v)::dvs l vs r:=rfl
theorem dvs_none(op:Op)(ty:TypeId)(pos:String)(af:Array Edge)(g:Option (Nat×Bool))(l:List Oper)(v:IV)(vs:List IV)(r:List (Nat×IV)):dvs (⟨none,op,ty,pos,af,g⟩::l) (v::vs) r=dvs l vs r:=rfl
theorem kp(vs:List IV)(r:List (Nat×IV)):dvs [] vs r=r:=rfl
theorem dvs_nil'(l:List Oper)(r:List (Nat×IV)):dvs l [] r=r:=by cases l<;>rfl
def dstAt(l:List Oper)(j:Nat):Option Tmp:=(l[j]?).bind (·.dst)
theorem zzV{t:Nat}{r:List (Nat×IV)}: ∀{l:List Oper} {vs:List IV},(∀j,dstAt l j≠some t)→look (dvs l vs r) t=look r t
 |[],vs,_=>by rw[kp]
 |o::l,[],_=>by rw[dvs_nil']
 |o::l,v::vs,h=>by
  have ih:look (dvs l vs r) t=look r t:=zzV fun j=>h (j+1)
  have h0:o.dst≠some t:=h 0
  unfold dvs
  cases hd:o.dst with
  |none=>exact ih
  |some d=>simp only;rw[yN,if_neg (fun e=>h0 (by rw[hd,e]))];exact ih
theorem zzU{t:Nat}{r:List (Nat×IV)}{v:IV}: ∀{l:List Oper} {vs:List IV} {j:Nat},(∀i k,dstAt l i=some t→dstAt l k=some t→i=k)→dstAt l j=some t→vs[j]?=some v→look (dvs l vs r) t=v
 |[],vs,j,_,h,_=>by simp[dstAt] at h
 |o::l,[],j,_,_,h=>by simp at h
 |o::l,w::vs,0,hu,h,hv=>by
  have h0:o.dst=some t:=h
  simp at hv;subst hv
  unfold dvs
  rw[h0];simp only;rw[yN,if_pos rfl]
 |o::l,w::vs,j+1,hu,h,hv=>by
  have ih:look (dvs l vs r) t=v:=zzU (j:=j) (fun i k hi hk=>by have:=hu (i+1) (k+1) hi hk;omega) h (by simpa using hv)
  have h0:o.dst≠some t:=fun e=>by have:=hu 0 (j+1) e h;omega
  unfold dvs
  cases hd:o.dst with
  |none=>exact ih
  |some d=>simp only;rw[yN,if_neg (fun e=>h0 (by rw[hd,e]))];exact ih
theorem look_dvs_eq{t:Nat}{r:List (Nat×IV)}: ∀{l:List Oper} {vs vs':List IV},vs.length=vs'.length→(∀j,dstAt l j=some t→vs[j]?=vs'[j]?)→look (dvs l vs r) t=look (dvs l vs' r) t
 |[],vs,vs',_,_=>by rw[kp,kp]
 |o::l,[],vs',hl,_=>by have:=List.length_eq_zero_iff.1 hl.symm;subst this;rfl
 |o::l,v::vs,[],hl,_=>by simp at hl
 |o::l,v::vs,v'::vs',hl,h=>by
  have ih:look (dvs l vs r) t=look (dvs l vs' r) t:=look_dvs_eq (by simpa using hl) fun j hj=>by simpa using h (j+1) hj
  unfold dvs
  cases hd:o.dst with
  |none=>exact ih
  |some d=>
   simp only
   rw[yN,yN]
   split
   ·rename_i e
    have:=h 0 (by simp[dstAt,hd,e])
    simpa using this
   ·exact ih
def pick{α:Type}:List Bool→List α→List α
 |true::q,x::l=>x::pick q l
 |false::q,_::l=>pick q l
 |_,_=>[]
theorem pick_eq{α:Type}: ∀{q:List Bool} {l m:List α},pick q l=pick q m→l.length=m.length→ ∀k:Nat,q[k]?=some true→l[k]?=m[k]?
 |[],l,m,_,_,k,hq=>by simp at hq
 |b::q,[],m,_,hl,k,hq=>by have:=List.length_eq_zero_iff.1 hl.symm;subst this;rfl
 |b::q,x::l,[],_,hl,k,hq=>by simp at hl
 |true::q,x::l,y::m,h,hl,k,hq=>by
  simp only[pick,List.cons.injEq] at h
  cases k with
  |zero=>simp[h.1]
  |succ k=>simpa using pick_eq h.2 (by simpa using hl) k (by simpa using hq)
 |false::q,x::l,y::m,h,hl,k,hq=>by
  simp only[pick] at h
  cases k with
  |zero=>simp at hq
  |succ k=>simpa using pick_eq h (by simpa using hl) k (by simpa using hq)
theorem zzI{β:Type}{f:β→SA→SA}{b:β→Bool}: ∀{M:List β} {As:List SA} {p:Part},(∀s∈M,b s=true→ ∀A,f s A=A)→(∀s∈M,b s=false→ ∀A,f s A=emp)→(Sep (List.zipWith f M As) p↔Sep (pick (M.map b) As) p)
 |[],As,p,_,_=>by simp[pick]
 |s::M,[],p,_,_=>by cases h:b s<;>simp[pick,h]
 |s::M,A::As,p,h1,h2=>by
  have ih:=fun p=>zzI (f:=f) (b:=b) (M:=M) (As:=As) (p:=p) (fun s hs=>h1 s (by simp[hs])) (fun s hs=>h2 s (by simp[hs]))
  simp only[List.zipWith_cons_cons,List.map_cons]
  cases hb:b s with
  |true=>
   rw[h1 s (by simp) hb A]
   exact⟨fun h=>zF h (fun _ h=>h) fun p h=>(ih p).1 h,fun h=>zF h (fun _ h=>h) fun p h=>(ih p).2 h⟩
  |false=>
   rw[h2 s (by simp) hb A]
   exact⟨fun h=>(ih p).1 (emp_star.1 h),fun h=>emp_star.2 ((ih p).2 h)⟩
theorem Sep_part{β:Type}{f:β→SA→SA}(q:β→Bool): ∀{M:List β} {As:List SA} {p:Part},Sep (List.zipWith f M As) p↔star (Sep (List.zipWith (fun s A=>if q s then f s A else emp) M As)) (Sep (List.zipWith (fun s A=>if q s then emp else f s A) M As)) p
 |[],As,p=>by simp only[List.zipWith_nil_left];exact emp_star.symm
 |s::M,[],p=>by simp only[List.zipWith_nil_right];exact emp_star.symm
 |s::M,A::As,p=>by
  have ih:=fun p=>Sep_part (f:=f) q (M:=M) (As:=As) (p:=p)
  simp only[List.zipWith_cons_cons]
  cases hb:q s with
  |true=>
   simp only[if_true]
   constructor
   ·intro h
    have h2:=zF h (fun _ h=>h) fun p h=>(ih p).1 h
    exact zF (yA h2) (fun _ h=>h) fun _ h=>emp_star.2 h
   ·intro h
    have h2:=zF h (fun _ h=>h) fun _ h=>emp_star.1 h
    exact zF (zy h2) (fun _ h=>h) fun p h=>(ih p).2 h
  |false=>
   simp only[Bool.false_eq_true,if_false]
   constructor
   ·intro h
    have h2:=zF h (fun _ h=>h) fun p h=>(ih p).1 h
    exact zF (zV h2) (fun _ h=>emp_star.2 h) fun _ h=>h
   ·intro h
    have h2:=zF h (fun _ h=>emp_star.1 h) fun _ h=>h
    exact zF (zV h2) (fun _ h=>h) fun p h=>(ih p).2 h
structure SM where
 pr:Option Nat
 co:Option Nat
 us:List Nat
def bitT(T:List Nat)(i j:Nat):Bool:=(T.getD i 0).testBit j
def anyOk(T:List Nat)(n':Nat)(ops:Array Oper):Bool:=
 (List.range ops.size).all fun i=>match ops[i]? with
  |none=>false
  |some oi=>(T.getD i 0|||upR T oi==upR T oi)&&(oi.after.all fun e=>!Region.binds .any e||decide (e.on<i))&&
   (if i<n' then(List.range n').all fun j=>match ops[j]? with
     |none=>false
     |some oj=>match oj.dst with
      |some d=>(j==i||oi.dst !=some d)&&(!(oi.looksAt ops).contains d||bitT T i j)
      |none=>true
    else(List.range i).all fun j=>bitT T i j)
def slotsOk(T:List Nat)(n':Nat)(M:List SM):Bool:=
 M.all fun s=>(match s.pr with|some p=>decide (p<n')|none=>true)&&(match s.co with|some c=>decide (c<n')|none=>true)&&
  (match s.pr,s.co with|some p,some c=>bitT T c p|_,_=>true)&&
  s.us.all fun u=>decide (u<n')&&(match s.pr with|some p=>bitT T u p|none=>true)&&(match s.co with|some c=>bitT T c u|none=>true)
def preB(M:List SM)(i:Nat):List Bool:=M.map fun s=>s.co==some i||s.us.contains i
def postB(M:List SM)(i:Nat):List Bool:=M.map fun s=>s.us.contains i||s.pr==some i
def iniB(M:List SM):List Bool:=M.map fun s=>s.pr==none
def finB(M:List SM):List Bool:=M.map fun s=>s.co==none
def kpV(T:List Nat)(n' i:Nat):List Bool:=(List.range n').map fun j=>!(j==i||bitT T j i)
def kpA(T:List Nat)(M:List SM)(i:Nat):List Bool:=M.map fun s=>match s.pr with|none=>true|some p=>!(p==i||bitT T p i)
section facts
variable {T:List Nat} {n':Nat} {ops:Array Oper} (h:anyOk T n' ops=true)
include h
theorem ak(i:Nat)(oi:Oper)(hi:ops[i]?=some oi):((T.getD i 0|||upR T oi)=upR T oi∧ ∀e∈oi.after,Region.binds .any e=true→e.on<i)∧
  (i<n'→ ∀j oj d,j<n'→ops[j]?=some oj→oj.dst=some d→(j=i∨oi.dst≠some d)∧(d∈oi.looksAt ops→bitT T i j=true))∧
  (n'≤i→ ∀j,j<i→bitT T i j=true):=by
 have hlt:i<ops.size:=(Array.getElem?_eq_some_iff.1 hi).1
 unfold anyOk at h
 rw[List.all_eq_true] at h
 have h:=h i (by simpa using hlt)
 rw[hi] at h
 simp only[Bool.and_eq_true,beq_iff_eq] at h
 obtain⟨⟨h0,h1⟩,h2⟩:=h
 refine⟨⟨h0,?_⟩,?_,?_⟩
 ·intro e he hb
  have:=Array.all_eq_true_iff_forall_mem.1 h1 e he
  simpa [hb] using this
 ·intro hn j oj d hj hoj hd
  rw[if_pos hn,List.all_eq_true] at h2
  have h2:=h2 j (by simpa using hj)
  rw[hoj] at h2
  simp only[hd,Bool.and_eq_true,Bool.or_eq_true,beq_iff_eq,bne_iff_ne,Bool.not_eq_true'] at h2
  refine⟨h2.1,fun hm=>?_⟩
  rcases h2.2 with a|a
  ·rw[List.contains_eq_mem] at a
   simp[hm] at a
  ·exact a
 ·intro hn j hj
  rw[if_neg (by omega),List.all_eq_true] at h2
  exact h2 j (by simpa using hj)
theorem ak_waits(i:Nat)(oi:Oper)(hi:ops[i]?=some oi)(j:Nat)(hb:bitT T i j=true):waitsT ops (i+1) oi j=true:=
 zzH (fun i oi hi=>(ak h i oi hi).1) (i+1) i (by omega) oi j hi hb
end facts
theorem any_tailU{P:Program}{T:List Nat}{ops:Array Oper}{n':Nat}(hk:anyOk T n' ops=true){Q:Exit→Fr→Heap→Prop}{J0:Inj}{S0:Sure}{H0:Heap}{w0:World}: ∀(m k:Nat),n'≤k→k+m=ops.size→ ∀(listed:Array Bool),listed.size=ops.size→
  (∀i,i<k→listed.getD i true=true)→(∀i,k≤i→i<ops.size→listed.getD i true=false)→ ∀a H,vcOps P ops (ops.toList.drop k) (Q .normal) a H→ ∀B ro J S ra w,RelF J S a ra→RelH J S H w→Okr B ro ra.defers w→Ext J0 S0 H0 w0 J S H w→
  wpAnyIn (FX ro) 0 P .any ops (Post B ro Q J0 S0 H0 w0) m listed ra w
 |0,k,hn,hm,listed,hsz,h1,h2,a,H,hv,B,ro,J,S,ra,w,hF,hH,hO,hE=>by
  refine⟨?_,?_⟩
  ·apply List.eq_nil_iff_forall_not_mem.2
   intro i hi
   obtain⟨hi1,hi2,_⟩:=mem_ready.1 hi
   rw[h1 i (by omega)] at hi2;cases hi2
  ·rw[List.drop_eq_nil_of_le (by simp;omega)] at hv
   exact⟨J,S,a,H,hv,hF,hH,hE,hO⟩
 |m+1,k,hn,hm,listed,hsz,h1,h2,a,H,hv,B,ro,J,S,ra,w,hF,hH,hO,hE=>by
  have hlt:k<ops.size:=by omega
  have hok:ops[k]?=some ops[k]:=by simp[hlt]
  have hdrop:ops.toList.drop k=ops[k]::ops.toList.drop (k+1):=by
   rw[List.drop_eq_getElem_cons (by simpa using hlt)];simp
  rw[hdrop] at hv
  obtain⟨hd,hv⟩:=hv
  constructor
  ·intro hnil
   exfalso
   have:k∈Region.ready .any ops listed:=by
    refine mem_ready.2 ⟨hlt,h2 k (Nat.le_refl _) hlt,fun oi hoi e he hb=>?_⟩
    have:=(ak hk k oi hoi).1.2 e he hb
    have:=h1 e.on this
    have hsz':e.on<listed.size:=by omega
    simpa [Array.getD,hsz'] using this
   rw[hnil] at this;cases this
  ·intro i hi
   obtain⟨hi1,hi2,hi3⟩:=mem_ready.1 hi
   have hik:i=k:=by
    rcases Nat.lt_trichotomy i k with h|h|h
    ·rw[h1 i h] at hi2;cases hi2
    ·exact h
    ·exfalso
     have hoi:ops[i]?=some ops[i]:=by simp[hi1]
     have hg: ∀q,q<k→listed.getD q false=true:=fun q hq=>by
      have hq1:=h1 q hq
      have hq2:q<listed.size:=by omega
      simpa [Array.getD,hq2] using hq1
     have hng: ∀q,k≤q→listed.getD q false=true→False:=fun q hq hl=>by
      by_cases hqs:q<ops.size
      ·have hq1:=h2 q hq hqs
       have hq2:q<listed.size:=by omega
       simp only[Array.getD,hq2,dif_pos] at hq1 hl
       rw[hl] at hq1;cases hq1
      ·have hq2: ¬q<listed.size:=by omega
       simp[Array.getD,hq2] at hl
     have:=yE (listed:=listed) (fun q oq hoq hl e he hb=>hg _ (by
      have hqk:q<k:=by
       rcases Nat.lt_or_ge q k with hq|hq
       ·exact hq
       ·exact(hng q hq hl).elim
      have:=(ak hk q oq hoq).1.2 e he hb
      omega)) _ _ k (fun e he hb=>hi3 _ hoi e he hb) (ak_waits hk i _ hoi k ((ak hk i _ hoi).2.2 (by omega) k h))
     have h2':=h2 k (Nat.le_refl _) hlt
     have hsz':k<listed.size:=by omega
     simp[Array.getD,hsz'] at this h2'
     rw[this] at h2';cases h2'
   subst hik
   have next: ∀a' H',vcOps P ops (ops.toList.drop (i+1)) (Q .normal) a' H'→ ∀J S ra w,RelF J S a' ra→RelH J S H' w→Okr B ro ra.defers w→Ext J0 S0 H0 w0 J S H' w→wpAnyIn (FX ro) 0 P .any ops (Post B ro Q J0 S0 H0 w0) m (listed.setIfInBounds i true) ra w:=by
    intro a' H' hv' J S ra w hF hH hO hE
    refine any_tailU hk m (i+1) (by omega) (by omega) _ (by simpa using hsz) (fun q hq=>?_) (fun q hq hq'=>?_) a' H' hv' B ro J S ra w hF hH hO hE
    ·by_cases e:q=i
     ·subst e
      have hq':q<listed.size:=by omega
      simp[Array.getD,hq']
     ·have:=h1 q (by omega)
      have hq':q<listed.size:=by omega
      simp only[Array.getD,hq',dif_pos,Array.size_setIfInBounds] at this ⊢
      rw[←this]
      exact Array.getElem_setIfInBounds_ne hq' (Ne.symm e)
    ·have:=h2 q (by omega) hq'
     have hq'':q<listed.size:=by omega
     simp only[Array.getD,hq'',dif_pos,Array.size_setIfInBounds] at this ⊢
     rw[←this]
     exact Array.getElem_setIfInBounds_ne hq'' (by omega)
   unfold wpOpIn
   simp only[hok]
   unfold wantK at hv
   split at hv
   ·rename_i hw
    rw[yB hw hF,if_pos rfl]
    refine yi hv hF hH ?_ ro
    intro v H' J' S' u w' hv' hvr hH' hE'
    exact next _ _ hv' J' S' _ w' ((hF.mono hE'.hJ hE'.hS).put hd hvr) hH' (by rw[yC];exact hO.ext hH hE') (hE.trans hE')
   ·rename_i hw
    rw[yB hw hF,if_neg (by simp)]
    exact⟨fun _ _=>trivial,next _ _ hv J S _ w (hF.put hd (.undef _ _)) hH (by rw[yC];exact hO) hE⟩
   ·exact hv.elim
def gotO(d:Option Tmp)(a:Fr)(v:IV):Prop:=match d with
 |some t=>a.get t=v
 |none=>True
theorem gotO_some(t:Tmp)(a:Fr)(v:IV):gotO (some t) a v=(a.get t=v):=rfl
theorem zzK(a:Fr)(t:Tmp)(v:IV):(a.put t v).get t=v:=by simp[Fr.put]
def pfr(n:Nat)(l:List Oper)(D:Nat→Bool)(vs:List IV)(r:List (Nat×IV)):Fr:={n:=n,b:=0,get:=fun t=>if(List.range l.length).any (fun j=>dstAt l j==some t&&!D j) then .junk else look (dvs l vs r) t}
theorem RelF.less{J:Inj}{S:Sure}{a a':Fr}{ra:Act}(h:RelF J S a ra)(hn:a'.n=a.n)(k: ∀t,a'.get t= .junk∨a'.get t=a.get t):RelF J S a' ra:=by
 refine⟨h.glob,by rw[h.size,hn],fun t=>?_⟩
 rcases k t with e|e
 ·rw[e];exact .junk _
 ·rw[e];exact h.val t
def actb(D:Nat→Bool)(s:SM):Bool:=(match s.pr with|some p=>D p|none=>true)&&(match s.co with|some c=>!D c|none=>true)
def act(D:Nat→Bool)(s:SM)(A:SA):SA:=if actb D s=true then A else emp
theorem act_t{D:Nat→Bool}{s:SM}(h:actb D s=true)(A:SA):act D s A=A:=if_pos h
theorem act_f{D:Nat→Bool}{s:SM}(h:actb D s=false)(A:SA):act D s A=emp:=if_neg (by rw[h];decide)
theorem actb_t{D:Nat→Bool}{s:SM}(h1: ∀p,s.pr=some p→D p=true)(h2: ∀c,s.co=some c→D c=false):actb D s=true:=by
 unfold actb
 cases hp:s.pr<;>cases hc:s.co
 ·rfl
 ·simp[h2 _ hc]
 ·simp[h1 _ hp]
 ·simp[h1 _ hp,h2 _ hc]
theorem actb_p{D:Nat→Bool}{s:SM}{p:Nat}(h:s.pr=some p)(hD:D p=false):actb D s=false:=by
 unfold actb;rw[h];simp[hD]
theorem actb_c{D:Nat→Bool}{s:SM}{c:Nat}(h:s.co=some c)(hD:D c=true):actb D s=false:=by
 unfold actb;rw[h];simp[hD]
theorem actb_pr{D:Nat→Bool}{s:SM}{p:Nat}(h:actb D s=true)(hp:s.pr=some p):D p=true:=by
 unfold actb at h;rw[hp] at h;simp at h;exact h.1
theorem actb_eq{D D':Nat→Bool}{s:SM}(h1: ∀p,s.pr=some p→D p=D' p)(h2: ∀c,s.co=some c→D c=D' c):actb D s=actb D' s:=by
 unfold actb
 cases hp:s.pr<;>cases hc:s.co
 ·rfl
 ·simp[h2 _ hc]
 ·simp[h1 _ hp]
 ·simp[h1 _ hp,h2 _ hc]
def Ob(P:Program)(ops:Array Oper)(T:List Nat)(n' n:Nat)(hd:List Oper)(l0:List (Nat×IV))(R:List SA){Γ:Type}(vals:Γ→List IV)(As:Γ→List SA)(M:List SM)(i:Nat)(o:Oper):Prop:=
 ∀γ F H,HS F (R++pick (preB M i) (As γ)) H→vcO P ops none [o] (hold fun a' H'=> ∃γ',pick (kpV T n' i) (vals γ')=pick (kpV T n' i) (vals γ)∧pick (kpA T M i) (As γ')=pick (kpA T M i) (As γ)∧gotO o.dst a' ((vals γ').getD i .junk)∧HS F (R++pick (postB M i) (As γ')) H') (fr n (dvs hd (vals γ) l0)) H
theorem yv{T:List Nat}{n':Nat}{M:List SM}(h:slotsOk T n' M=true){s:SM}(hs:s∈M):(∀p,s.pr=some p→p<n')∧(∀c,s.co=some c→c<n')∧(∀p c,s.pr=some p→s.co=some c→bitT T c p=true)∧
  ∀u∈s.us,u<n'∧(∀p,s.pr=some p→bitT T u p=true)∧ ∀c,s.co=some c→bitT T c u=true:=by
 unfold slotsOk at h
 rw[List.all_eq_true] at h
 have h:=h s hs
 simp only[Bool.and_eq_true,List.all_eq_true] at h
 obtain⟨⟨⟨h1,h2⟩,h3⟩,h4⟩:=h
 refine⟨fun p e=>?_,fun c e=>?_,fun p c e e'=>?_,fun u hu=>?_⟩
 ·rw[e] at h1;simpa using h1
 ·rw[e] at h2;simpa using h2
 ·rw[e,e'] at h3;simpa using h3
 ·obtain⟨⟨a1,a2⟩,a3⟩:=h4 u hu
  refine⟨by simpa using a1,fun p e=>?_,fun c e=>?_⟩
  ·rw[e] at a2;simpa using a2
  ·rw[e] at a3;simpa using a3
theorem HS.seps{F:SA}{R L L':List SA}{H:Heap}(h:HS F (R++L) H)(k: ∀p,Sep L p→Sep L' p):HS F (R++L') H:=
 h.mono (fun _ h=>h) fun _ h=>Sep_append.2 (zF (Sep_append.1 h) (fun _ h=>h) k)
theorem HS.seps2{F X:SA}{R L L':List SA}{H:Heap}(h:HS F (R++L) H)(k: ∀p,Sep L p→star (Sep L') X p):HS (star F X) (R++L') H:=by
 obtain⟨w,h⟩:=h
 refine⟨w,zF h (fun _ h=>h) fun p h=>?_⟩
 have h2:=zF h (fun _ h=>h) fun p h=>zF (Sep_append.1 h) (fun _ h=>h) k
 have h3:=zF h2 (fun _ h=>h) fun p h=>yA h
 have h4:=zF h3 (fun _ h=>h) fun p h=>zv h
 exact zF (yA h4) (fun _ h=>h) fun p h=>Sep_append.2 h
theorem HS.seps3{F X:SA}{R L L':List SA}{H:Heap}(h:HS (star F X) (R++L') H)(k: ∀p,star (Sep L') X p→Sep L p):HS F (R++L) H:=by
 obtain⟨w,h⟩:=h
 refine⟨w,zF h (fun _ h=>h) fun p h=>?_⟩
 have h1:=zy h
 have h2:=zF h1 (fun _ h=>h) fun p h=>zv h
 have h3:=zF h2 (fun _ h=>h) fun p h=>zy (zF h (fun p h=>Sep_append.1 h) (fun _ h=>h))
 exact zF h3 (fun _ h=>h) fun p h=>Sep_append.2 (zF h (fun _ h=>h) k)
section main
variable {P:Program} {T:List Nat} {ops:Array Oper} {n' n:Nat} {Γ:Type} {l0:List (Nat×IV)} {R:List SA} {vals:Γ→List IV} {As:Γ→List SA} {M:List SM} {F:SA}
theorem any_preU(hk:anyOk T n' ops=true)(hn:n'≤ops.size)(hM:slotsOk T n' M=true)(hvl: ∀γ,(vals γ).length=n')(hAl: ∀γ,(As γ).length=M.length)(hOb: ∀i oi,i<n'→ops[i]?=some oi→Ob P ops T n' n (ops.toList.take n') l0 R vals As M i oi)
  {Q:Exit→Fr→Heap→Prop} (hQ: ∀γ H,HS F (R++pick (finB M) (As γ)) H→vcOps P ops (ops.toList.drop n') (Q .normal) (fr n (dvs (ops.toList.take n') (vals γ) l0)) H)
  {J0:Inj} {S0:Sure} {H0:Heap} {w0:World}: ∀(m:Nat) (rem:List Nat),rem.length=m→ ∀(listed:Array Bool),listed.size=ops.size→
  rem=(List.range n').filter (fun i=>!listed.getD i true)→(∀i,n'≤i→i<ops.size→listed.getD i true=false)→
  (∀q oq,ops[q]?=some oq→listed.getD q false=true→ ∀e∈oq.after,Region.binds .any e=true→listed.getD e.on false=true)→
  ∀γ H,HS F (R++List.zipWith (act fun j=>listed.getD j false) M (As γ)) H→ ∀B ro J S ra w,RelF J S (pfr n (ops.toList.take n') (fun j=>listed.getD j false) (vals γ) l0) ra→RelH J S H w→Okr B ro ra.defers w→Ext J0 S0 H0 w0 J S H w→
  wpAnyIn (FX ro) 0 P .any ops (Post B ro Q J0 S0 H0 w0) (m+(ops.size-n')) listed ra w
 |0,rem,hm,listed,hsz,hrem,h2,hcl,γ,H,hs,B,ro,J,S,ra,w,hF,hH,hO,hE=>by
  have:rem=[]:=List.length_eq_zero_iff.1 hm
  rw[this] at hrem
  rw[Nat.zero_add]
  have hall: ∀i,i<n'→listed.getD i true=true:=fun i hi=>by
   have:=(List.filter_eq_nil_iff.1 hrem.symm) i (by simpa using hi)
   simpa using this
  have hallf: ∀i,i<n'→listed.getD i false=true:=fun i hi=>by
   have h1:=hall i hi
   have h2:i<listed.size:=by omega
   simpa [Array.getD,h2] using h1
  refine any_tailU hk (ops.size-n') n' (Nat.le_refl _) (by omega) listed hsz hall h2 _ H (hQ γ H ?_) B ro J S ra w (hF.less rfl fun t=> .inr ?_) hH hO hE
  ·refine hs.seps fun p h=>(zzI (f:=act fun j=>listed.getD j false) (b:=fun s=>s.co==none) (fun s hsm hb A=>?_) (fun s hsm hb A=>?_)).1 h
   ·have hb':s.co=none:=by simpa using hb
    exact act_t (actb_t (fun p hp=>hallf p ((yv hM hsm).1 p hp)) (fun c hc=>by rw[hb'] at hc;cases hc)) A
   ·cases hc:s.co with
    |none=>rw[hc] at hb;simp at hb
    |some c=>exact act_f (actb_c hc (hallf c ((yv hM hsm).2.1 c hc))) A
  ·simp only[pfr,fr_get]
   rw[if_neg]
   simp only[List.any_eq_true,not_exists,not_and]
   intro j hj
   have hj':j<n':=by simp at hj;omega
   simp[hallf j hj']
 |m+1,rem,hm,listed,hsz,hrem,h2,hcl,γ,H,hs,B,ro,J,S,ra,w,hF,hH,hO,hE=>by
  have hmem: ∀q,q∈rem↔q<n'∧listed.getD q true=false:=by
   intro q;rw[hrem,List.mem_filter];simp
  have hsort:rem.Pairwise (· < ·):=by rw[hrem];exact List.pairwise_lt_range.filter _
  have hgf: ∀q,q<ops.size→listed.getD q false=listed.getD q true:=by
   intro q hq
   have:q<listed.size:=by omega
   simp[Array.getD,this]
  rw[show m+1+(ops.size-n')=(m+(ops.size-n'))+1 by omega]
  obtain⟨h0,tl,hcons⟩: ∃h0 tl,rem=h0::tl:=by
   cases rem with
   |nil=>simp at hm
   |cons x xs=>exact⟨x,xs,rfl⟩
  have h0mem:h0∈rem:=by rw[hcons];simp
  obtain⟨h0n,h0l⟩:=(hmem h0).1 h0mem
  constructor
  ·intro hnil
   exfalso
   have:h0∈Region.ready .any ops listed:=by
    refine mem_ready.2 ⟨by omega,h0l,fun oi hoi e he hb=>?_⟩
    have hlt:=(ak hk h0 oi hoi).1.2 e he hb
    rw[hgf _ (by omega)]
    by_cases hl:listed.getD e.on true=true
    ·exact hl
    ·exfalso
     have:e.on∈rem:=(hmem _).2 ⟨by omega,by simpa using hl⟩
     rw[hcons] at this hsort
     rcases List.mem_cons.1 this with h|h
     ·omega
     ·have:=(List.pairwise_cons.1 hsort).1 _ h
      omega
   rw[hnil] at this;cases this
  ·intro i hi
   obtain⟨hi1,hi2,hi3⟩:=mem_ready.1 hi
   have hoi:ops[i]?=some ops[i]:=by simp[hi1]
   have hin:i<n':=by
    rcases Nat.lt_or_ge i n' with h|h
    ·exact h
    ·exfalso
     have:=yE hcl _ _ h0 (fun e he hb=>hi3 _ hoi e he hb) (ak_waits hk i _ hoi h0 ((ak hk i _ hoi).2.2 h h0 (by omega)))
     rw[hgf _ (by omega),h0l] at this
     cases this
   have himem:i∈rem:=(hmem i).2 ⟨hin,hi2⟩
   have hDi:listed.getD i false=false:=by rw[hgf _ hi1];exact hi2
   have hw: ∀j,bitT T i j=true→listed.getD j false=true:=fun j hb=>yE hcl _ _ j (fun e he hb=>hi3 _ hoi e he hb) (ak_waits hk i _ hoi j hb)
   have hw2: ∀p j,p<n'→listed.getD p false=true→bitT T p j=true→listed.getD j false=true:=fun p j hp hl hb=>by
    have hop:ops[p]?=some ops[p]:=by simp[show p<ops.size by omega]
    exact yE hcl _ _ j (fun e he hb=>hcl p _ hop hl e he hb) (ak_waits hk p _ hop j hb)
   have hopj: ∀j t,dstAt (ops.toList.take n') j=some t→j<n'∧ ∃oj,ops[j]?=some oj∧oj.dst=some t:=by
    intro j t hj
    unfold dstAt at hj
    by_cases hjn:j<n'
    ·rw[List.getElem?_take_of_lt hjn] at hj
     rw[Array.getElem?_toList] at hj
     cases ho:ops[j]? with
     |none=>rw[ho] at hj;cases hj
     |some oj=>rw[ho] at hj;exact⟨hjn,oj,rfl,hj⟩
    ·rw[List.getElem?_eq_none (by simp;omega)] at hj;cases hj
   have hopj': ∀j oj t,j<n'→ops[j]?=some oj→oj.dst=some t→dstAt (ops.toList.take n') j=some t:=by
    intro j oj t hjn ho hd
    unfold dstAt
    rw[List.getElem?_take_of_lt hjn,Array.getElem?_toList,ho]
    exact hd
   have huniq: ∀t j k,dstAt (ops.toList.take n') j=some t→dstAt (ops.toList.take n') k=some t→j=k:=by
    intro t j k hj hk'
    obtain⟨hjn,oj,hoj,hdj⟩:=hopj j t hj
    obtain⟨hkn,ok,hok,hdk⟩:=hopj k t hk'
    rcases ((ak hk k ok hok).2.1 hkn j oj t hjn hoj hdj).1 with h|h
    ·exact h
    ·exact absurd hdk h
   have hpf: ∀t,(∀j,dstAt (ops.toList.take n') j=some t→listed.getD j false=true)→(pfr n (ops.toList.take n') (fun j=>listed.getD j false) (vals γ) l0).get t=look (dvs (ops.toList.take n') (vals γ) l0) t:=by
    intro t ht
    simp only[pfr]
    rw[if_neg]
    simp only[List.any_eq_true,not_exists,not_and]
    intro j _
    by_cases hj:dstAt (ops.toList.take n') j=some t
    ·simp[ht j hj]
    ·simp[hj]
   have hagree: ∀t∈(ops[i]).looksAt ops,(pfr n (ops.toList.take n') (fun j=>listed.getD j false) (vals γ) l0).get t=(fr n (dvs (ops.toList.take n') (vals γ) l0)).get t:=by
    intro t ht
    rw[fr_get]
    refine hpf t fun j hj=>?_
    obtain⟨hjn,oj,hoj,hdj⟩:=hopj j t hj
    exact hw j (((ak hk i _ hoi).2.1 hin j oj t hjn hoj hdj).2 ht)
   let qq:SM→Bool:=fun s=>s.co==some i||s.us.contains i||s.pr==some i
   have hact: ∀s∈M,(s.co==some i||s.us.contains i)=true→ ∀A,act (fun j=>listed.getD j false) s A=A:=by
    intro s hsm hb A
    obtain⟨f1,f2,f3,f4⟩:=yv hM hsm
    refine act_t (actb_t (fun p hp=>hw p ?_) (fun c hc=>?_)) A
    ·rw[Bool.or_eq_true] at hb
     rcases hb with hb|hb
     ·exact f3 p i hp (by simpa using hb)
     ·exact(f4 i (by simpa using hb)).2.1 p hp
    ·rw[Bool.or_eq_true] at hb
     rcases hb with hb|hb
     ·rw[hc] at hb
      have:c=i:=by simpa using hb
      subst this
      exact hDi
     ·have hbt:=(f4 i (by simpa using hb)).2.2 c hc
      cases hl:listed.getD c false with
      |false=>rfl
      |true=>
       have:=hw2 c i (f2 c hc) hl hbt
       rw[hDi] at this;cases this
   have hpr: ∀s∈M,s.pr=some i→ ∀A,act (fun j=>listed.getD j false) s A=emp:=by
    intro s hsm hp A
    exact act_f (actb_p hp hDi) A
   have hnot: ∀s∈M,s.pr=some i→(s.co==some i||s.us.contains i)=false:=by
    intro s hsm hp
    cases hb:(s.co==some i||s.us.contains i) with
    |false=>rfl
    |true=>
     exfalso
     obtain⟨f1,f2,f3,f4⟩:=yv hM hsm
     have:bitT T i i=true:=by
      rw[Bool.or_eq_true] at hb
      rcases hb with hb|hb
      ·exact f3 i i hp (by simpa using hb)
      ·exact(f4 i (by simpa using hb)).2.1 i hp
     have:=hw i this
     rw[hDi] at this;cases this
   have hs1:HS (star F (Sep (List.zipWith (fun s A=>if qq s then emp else act (fun j=>listed.getD j false) s A) M (As γ)))) (R++pick (preB M i) (As γ)) H:=by
    refine hs.seps2 fun p h=>?_
    refine zF ((Sep_part qq).1 h) (fun p h=>?_) (fun _ h=>h)
    refine(zzI (b:=fun s=>s.co==some i||s.us.contains i) (fun s hsm hb A=>?_) (fun s hsm hb A=>?_)).1 h
    ·have:qq s=true:=by simp only[qq,hb,Bool.true_or]
     rw[if_pos this,hact s hsm hb A]
    ·by_cases hp:s.pr=some i
     ·have:qq s=true:=by simp[qq,hp]
      rw[if_pos this,hpr s hsm hp A]
     ·have:qq s=false:=by simp only[qq,hb,Bool.false_or];simpa using hp
      rw[this];rfl
   have ob:=yd _ _ _ (hOb i _ hin hoi γ _ H hs1)
   obtain⟨hhas,hwant⟩:=ob
   have next: ∀v H',(∃γ',pick (kpV T n' i) (vals γ')=pick (kpV T n' i) (vals γ)∧pick (kpA T M i) (As γ')=pick (kpA T M i) (As γ)∧gotO (ops[i]).dst ((fr n (dvs (ops.toList.take n') (vals γ) l0)).putO (ops[i]).dst v) ((vals γ').getD i .junk)∧
      HS (star F (Sep (List.zipWith (fun s A=>if qq s then emp else act (fun j=>listed.getD j false) s A) M (As γ)))) (R++pick (postB M i) (As γ')) H')→
     ∀J S ra w,RelF J S ((pfr n (ops.toList.take n') (fun j=>listed.getD j false) (vals γ) l0).putO (ops[i]).dst v) ra→RelH J S H' w→Okr B ro ra.defers w→Ext J0 S0 H0 w0 J S H' w→wpAnyIn (FX ro) 0 P .any ops (Post B ro Q J0 S0 H0 w0) (m+(ops.size-n')) (listed.setIfInBounds i true) ra w:=by
    rintro v H' ⟨γ',hv,hA,hgot,hs'⟩ J S ra w hF hH hO hE
    have hset: ∀r,(listed.setIfInBounds i true).getD r false=if r=i then true else listed.getD r false:=fun r=>by
     by_cases hr:r<listed.size
     ·by_cases e:r=i
      ·subst e;simp[Array.getD,hr]
      ·simp only[Array.getD,hr,dif_pos,Array.size_setIfInBounds,if_neg e]
       exact Array.getElem_setIfInBounds_ne hr (Ne.symm e)
     ·have:r≠i:=by rintro rfl;omega
      rw[if_neg this]
      simp[Array.getD,hr]
    have hkv: ∀j,j<n'→listed.getD j false=true→(vals γ')[j]?=(vals γ)[j]?:=by
     intro j hj hl
     refine pick_eq hv (by rw[hvl,hvl]) j ?_
     unfold kpV
     rw[List.getElem?_map,List.getElem?_range hj]
     have h1:j≠i:=by rintro rfl;rw[hDi] at hl;cases hl
     have h2:bitT T j i=false:=by
      cases hb:bitT T j i with
      |false=>rfl
      |true=>have:=hw2 j i hj hl hb;rw[hDi] at this;cases this
     simp[h1,h2]
    have hlen:(pre:List Nat)→True:=fun _=>trivial
    obtain⟨pre,post,hsplit⟩:=List.append_of_mem himem
    have hs2:(pre++i::post).Pairwise (· < ·):=hsplit▸hsort
    obtain⟨q1,q2,q3⟩:=List.pairwise_append.1 hs2
    have hpre: ∀j∈pre,j<i:=fun j hj=>q3 j hj i (by simp)
    have hpost: ∀j∈post,i<j:=fun j hj=>(List.pairwise_cons.1 q2).1 j hj
    have hrem':pre++post=(List.range n').filter (fun q=>!(listed.setIfInBounds i true).getD q true):=by
     have e1:(List.range n').filter (fun q=>!(listed.setIfInBounds i true).getD q true)=rem.filter (fun q=>decide (q≠i)):=by
      rw[hrem,List.filter_filter]
      apply List.filter_congr
      intro q hq
      have hq':q<listed.size:=by simp at hq;omega
      rw[getD_set hq']
      by_cases e:q=i<;>simp[e]
     rw[e1,hsplit,List.filter_append,List.filter_cons_of_neg (by simp),List.filter_eq_self.2 (fun x hx=>by have:=hpre x hx;simp;omega),List.filter_eq_self.2 (fun x hx=>by have:=hpost x hx;simp;omega)]
    have hlen:(pre++post).length=m:=by
     rw[hsplit] at hm
     simp at hm ⊢
     omega
    refine any_preU hk hn hM hvl hAl hOb hQ m (pre++post) hlen (listed.setIfInBounds i true) (by simpa using hsz) hrem' (fun q hq hq'=>by rw[getD_set (by omega),if_neg (by omega)];exact h2 q hq hq') (fun q oq hoq hl e he hb=>by
     rw[hset]
     split
     ·rfl
     ·rw[hset] at hl
      by_cases hqi:q=i
      ·subst hqi
       exact hi3 oq hoq e he hb
      ·rw[if_neg hqi] at hl
       exact hcl q oq hoq hl e he hb) γ' H' ?_ B ro J S ra w (hF.less ?_ fun t=>?_) hH hO hE
    ·-- the parts behind it
     have e2:List.zipWith (fun s A=>if qq s then emp else act (fun j=>listed.getD j false) s A) M (As γ)=List.zipWith (fun s A=>if qq s then emp else act (fun j=>(listed.setIfInBounds i true).getD j false) s A) M (As γ'):=by
      apply List.ext_getElem?
      intro k
      rw[List.getElem?_zipWith,List.getElem?_zipWith]
      cases hmk:M[k]? with
      |none=>rfl
      |some s=>
       have hsm:s∈M:=List.mem_of_getElem? hmk
       have hkM:k<M.length:=(List.getElem?_eq_some_iff.1 hmk).1
       have hk1:k<(As γ).length:=by rw[hAl];exact hkM
       have hk2:k<(As γ').length:=by rw[hAl];exact hkM
       rw[List.getElem?_eq_getElem hk1,List.getElem?_eq_getElem hk2]
       simp only[Option.some.injEq]
       cases hq:qq s with
       |true=>simp
       |false=>
        simp only[Bool.false_eq_true,if_false]
        simp only[qq,Bool.or_eq_false_iff] at hq
        obtain⟨⟨c1,c2⟩,c3⟩:=hq
        have c1':s.co≠some i:=by simpa using c1
        have c3':s.pr≠some i:=by simpa using c3
        have d1:actb (fun j=>(listed.setIfInBounds i true).getD j false) s=actb (fun j=>listed.getD j false) s:=
         actb_eq (fun p hp=>by rw[hset,if_neg (fun e=>c3' (by rw[hp,e]))]) (fun c hc=>by rw[hset,if_neg (fun e=>c1' (by rw[hc,e]))])
        cases hac:actb (fun j=>listed.getD j false) s with
        |false=>rw[act_f hac,act_f (d1.trans hac)]
        |true=>
         rw[act_t hac,act_t (d1.trans hac)]
         have:=pick_eq hA (by rw[hAl,hAl]) k (by
          unfold kpA
          rw[List.getElem?_map,hmk]
          cases hp:s.pr with
          |none=>simp[hp]
          |some p=>
           have hl:listed.getD p false=true:=actb_pr hac hp
           have h1:p≠i:=fun e=>c3' (by rw[hp,e])
           have h2:bitT T p i=false:=by
            cases hb:bitT T p i with
            |false=>rfl
            |true=>have:=hw2 p i ((yv hM hsm).1 p hp) hl hb;rw[hDi] at this;cases this
           simp[hp,h1,h2])
         rw[List.getElem?_eq_getElem hk1,List.getElem?_eq_getElem hk2] at this
         exact(Option.some.inj this).symm
     rw[e2] at hs'
     refine hs'.seps3 fun p h=>(Sep_part qq).2 (zF h (fun p h=>?_) (fun _ h=>h))
     have h':Sep (pick (M.map fun s=>s.us.contains i||s.pr==some i) (As γ')) p:=h
     refine(zzI (b:=fun s=>s.us.contains i||s.pr==some i) (fun s hsm hb A=>?_) (fun s hsm hb A=>?_)).2 h'
     ·obtain⟨f1,f2,f3,f4⟩:=yv hM hsm
      have hq:qq s=true:=by
       simp only[qq]
       rw[Bool.or_eq_true] at hb
       rcases hb with hb|hb
       ·rw[hb];simp
       ·rw[hb];simp
      rw[if_pos hq]
      refine act_t (actb_t (fun p hp=>?_) (fun c hc=>?_)) A
      ·rw[hset]
       split
       ·rfl
       ·rename_i hne
        rw[Bool.or_eq_true] at hb
        rcases hb with hb|hb
        ·exact hw p ((f4 i (by simpa using hb)).2.1 p hp)
        ·rw[hp] at hb;exact absurd (by simpa using hb) hne
      ·rw[hset]
       have hbt:bitT T c i=true:=by
        rw[Bool.or_eq_true] at hb
        rcases hb with hb|hb
        ·exact(f4 i (by simpa using hb)).2.2 c hc
        ·exact f3 i c (by simpa using hb) hc
       have hci:c≠i:=by
        rintro rfl
        have:=hw c hbt
        rw[hDi] at this;cases this
       rw[if_neg hci]
       cases hl:listed.getD c false with
       |false=>rfl
       |true=>have:=hw2 c i (f2 c hc) hl hbt;rw[hDi] at this;cases this
     ·rw[Bool.or_eq_false_iff] at hb
      by_cases hc:s.co=some i
      ·have hq:qq s=true:=by simp[qq,hc]
       rw[if_pos hq]
       exact act_f (actb_c hc (by rw[hset,if_pos rfl])) A
      ·have hq:qq s=false:=by
        simp only[qq,hb.1,hb.2,Bool.or_false];simpa using hc
       rw[hq];rfl
    ·cases (ops[i]).dst<;>rfl
    ·-- the frame behind it
     by_cases hall: ∀j,dstAt (ops.toList.take n') j=some t→(listed.setIfInBounds i true).getD j false=true
     ·right
      have e1:(pfr n (ops.toList.take n') (fun j=>(listed.setIfInBounds i true).getD j false) (vals γ') l0).get t=look (dvs (ops.toList.take n') (vals γ') l0) t:=by
       simp only[pfr]
       rw[if_neg]
       simp only[List.any_eq_true,not_exists,not_and]
       intro j _
       by_cases hj:dstAt (ops.toList.take n') j=some t
       ·simp[hall j hj]
       ·simp[hj]
      rw[e1]
      by_cases hdi:(ops[i]).dst=some t
      ·have hvi:(vals γ')[i]?=some ((vals γ').getD i .junk):=by
        have:i<(vals γ').length:=by rw[hvl];exact hin
        simp[List.getD_eq_getElem?_getD,this]
       rw[zzU (huniq t) (hopj' i _ t hin hoi hdi) hvi]
       rw[hdi] at hgot ⊢
       simp only[gotO_some,Fr.putO,zzK] at hgot ⊢
       exact hgot.symm
      ·have e3:((pfr n (ops.toList.take n') (fun j=>listed.getD j false) (vals γ) l0).putO (ops[i]).dst v).get t=(pfr n (ops.toList.take n') (fun j=>listed.getD j false) (vals γ) l0).get t:=by
        cases hd:(ops[i]).dst with
        |none=>rfl
        |some d=>
         have:t≠d:=fun e=>hdi (by rw[hd,e])
         simp[Fr.putO,Fr.put,this]
       have hnd: ∀j,dstAt (ops.toList.take n') j=some t→j<n'∧listed.getD j false=true:=by
        intro j hj
        have hjn:=(hopj j t hj).1
        have:=hall j hj
        rw[hset] at this
        refine⟨hjn,?_⟩
        split at this
        ·rename_i e
         subst e
         obtain⟨_,oj,hoj,hdj⟩:=hopj j t hj
         rw[hoi] at hoj;cases hoj
         exact absurd hdj hdi
        ·exact this
       rw[e3,hpf t fun j hj=>(hnd j hj).2]
       exact look_dvs_eq (by rw[hvl,hvl]) fun j hj=>hkv j (hnd j hj).1 (hnd j hj).2
     ·left
      simp only[pfr]
      rw[if_pos]
      simp only[Classical.not_forall] at hall
      obtain⟨j,hj,hl⟩:=hall
      rw[List.any_eq_true]
      refine⟨j,?_,?_⟩
      ·have:=(hopj j t hj).1
       simp;omega
      ·simp[hj]
       simpa using hl
   have hF0:=hF
   unfold wpOpIn
   simp only[hoi]
   have hw':iwant ops ops[i] (pfr n (ops.toList.take n') (fun j=>listed.getD j false) (vals γ) l0)=iwant ops ops[i] (fr n (dvs (ops.toList.take n') (vals γ) l0)):=iwant_eq rfl hagree
   have hhas':(pfr n (ops.toList.take n') (fun j=>listed.getD j false) (vals γ) l0).has (ops[i]).dst=true:=by
    have:(pfr n (ops.toList.take n') (fun j=>listed.getD j false) (vals γ) l0).has (ops[i]).dst=(fr n (dvs (ops.toList.take n') (vals γ) l0)).has (ops[i]).dst:=by cases (ops[i]).dst<;>rfl
    rw[this];exact hhas
   unfold wantK at hwant
   split at hwant
   ·rename_i hww
    rw[yB (hw'.trans hww) hF,if_pos rfl]
    refine yi (stepK_eq (ops:=ops) (a:=fr n (dvs (ops.toList.take n') (vals γ) l0)) (a':=pfr n (ops.toList.take n') (fun j=>listed.getD j false) (vals γ) l0) rfl hagree hwant) hF hH ?_ ro
    intro v H' J' S' u w' hv' hvr hH' hE'
    exact next v H' hv' J' S' _ w' ((hF.mono hE'.hJ hE'.hS).put hhas' hvr) hH' (by rw[yC];exact hO.ext hH hE') (hE.trans hE')
   ·rename_i hww
    rw[yB (hw'.trans hww) hF,if_neg (by simp)]
    exact⟨fun _ _=>trivial,next (.tup []) H hwant J S _ w (hF.put hhas' (.undef _ _)) hH (by rw[yC];exact hO) hE⟩
   ·exact hwant.elim
end main
def valsOf:List Oper→List (Nat×IV)→List IV
 |o::l,fl=>match o.dst,fl with
  |some _,p::fl=>p.2::valsOf l fl
  |some _,[]=> .junk::valsOf l []
  |none,fl=> .junk::valsOf l fl
 |[],_=>[]
theorem kn: ∀(l:List Oper) (fl:List (Nat×IV)),(valsOf l fl).length=l.length
 |[],_=>rfl
 |o::l,fl=>by
  unfold valsOf
  split
  ·simp[kn l]
  ·simp[kn l]
  ·simp[kn l]
def AllP(P:Program)(ops:Array Oper)(a:Fr)(H:Heap):List Bool→List Oper→List (Nat×IV)→Prop
 |b::k,o::l,fl=>match o.dst,fl with
  |some d,p::fl=>if b=true then AllP P ops a H k l fl else vcO P ops none [o] (fun a' H'=>H'=H∧a'.get d=p.2) a H∧AllP P ops a H k l fl
  |some _,[]=>False
  |none,fl=>b=true∧AllP P ops a H k l fl
 |_,_,_=>True
theorem AllP_f(P:Program)(ops:Array Oper)(a:Fr)(H:Heap)(k:List Bool)(d:Tmp)(op:Op)(ty:TypeId)(pos:String)(af:Array Edge)(g:Option (Nat×Bool))(l:List Oper)(t:Nat)(v:IV)(fl:List (Nat×IV)):
  AllP P ops a H (false::k) (⟨some d,op,ty,pos,af,g⟩::l) ((t,v)::fl)=(vcO P ops none [⟨some d,op,ty,pos,af,g⟩] (fun a' H'=>H'=H∧a'.get d=v) a H∧AllP P ops a H k l fl):=rfl
theorem AllP_t(P:Program)(ops:Array Oper)(a:Fr)(H:Heap)(k:List Bool)(d:Tmp)(op:Op)(ty:TypeId)(pos:String)(af:Array Edge)(g:Option (Nat×Bool))(l:List Oper)(t:Nat)(v:IV)(fl:List (Nat×IV)):
  AllP P ops a H (true::k) (⟨some d,op,ty,pos,af,g⟩::l) ((t,v)::fl)=AllP P ops a H k l fl:=rfl
theorem AllP_n(P:Program)(ops:Array Oper)(a:Fr)(H:Heap)(k:List Bool)(op:Op)(ty:TypeId)(pos:String)(af:Array Edge)(g:Option (Nat×Bool))(l:List Oper)(fl:List (Nat×IV)):
  AllP P ops a H (true::k) (⟨none,op,ty,pos,af,g⟩::l) fl=AllP P ops a H k l fl:=by simp[AllP]
theorem AllP_nil(P:Program)(ops:Array Oper)(a:Fr)(H:Heap)(l:List Oper)(fl:List (Nat×IV)):AllP P ops a H [] l fl=True:=Eq.trans rfl rfl
def AllE(X:Nat→Oper→Prop):Nat→List Bool→List Oper→Prop
 |i,true::k,o::l=>X i o∧AllE X (i+1) k l
 |i,false::k,_::l=>AllE X (i+1) k l
 |_,_,_=>True
theorem AllP_get{P:Program}{ops:Array Oper}{a:Fr}{H:Heap}: ∀{k:List Bool} {l:List Oper} {fl:List (Nat×IV)} {i:Nat} {o:Oper},AllP P ops a H k l fl→k[i]?=some false→l[i]?=some o→ ∃d,o.dst=some d∧vcO P ops none [o] (fun a' H'=>H'=H∧a'.get d=(valsOf l fl).getD i .junk) a H
 |[],_,_,i,_,_,h,_=>by simp at h
 |_::_,[],_,i,_,_,_,h=>by simp at h
 |b::k,o::l,fl,i,o',h,h1,h2=>by
  unfold AllP at h
  unfold valsOf
  cases hd:o.dst with
  |none=>
   rw[hd] at h
   simp only at h ⊢
   cases i with
   |zero=>simp at h1;rw[h.1] at h1;cases h1
   |succ i=>exact AllP_get (i:=i) h.2 (by simpa using h1) (by simpa using h2)
  |some d=>
   rw[hd] at h
   cases fl with
   |nil=>exact h.elim
   |cons p fl=>
    simp only at h ⊢
    cases i with
    |zero=>
     simp at h1 h2
     subst h1;subst h2
     exact⟨d,hd,h.1⟩
    |succ i=>
     cases b with
     |true=>exact AllP_get (i:=i) h (by simpa using h1) (by simpa using h2)
     |false=>exact AllP_get (i:=i) h.2 (by simpa using h1) (by simpa using h2)
theorem AllE_get{X:Nat→Oper→Prop}: ∀{k:List Bool} {l:List Oper} {n i:Nat} {o:Oper},AllE X n k l→k[i]?=some true→l[i]?=some o→X (n+i) o
 |[],_,_,i,_,_,h,_=>by simp at h
 |_::_,[],_,i,_,_,_,h=>by simp at h
 |true::k,o::l,n,0,_,h,_,h2=>by simp at h2;subst h2;exact h.1
 |false::k,o::l,n,0,_,h,h1,_=>by simp at h1
 |true::k,o::l,n,i+1,_,h,h1,h2=>by
  have:=AllE_get h.2 (by simpa using h1) (by simpa using h2)
  rwa [show n+1+i=n+(i+1) by omega] at this
 |false::k,o::l,n,i+1,_,h,h1,h2=>by
  have:=AllE_get (n:=n+1) h (by simpa using h1) (by simpa using h2)
  rwa [show n+1+i=n+(i+1) by omega] at this
def kdOk(kd:List Bool)(n':Nat)(M:List SM):Bool:=decide (kd.length=n')&&(List.range n').all fun i=>kd.getD i false||M.all fun s=>!(s.co==some i)&&!s.us.contains i&&!(s.pr==some i)
theorem zzc{α β:Type}{b:β→Bool}: ∀{M:List β} {l:List α},(∀s∈M,b s=false)→pick (M.map b) l=[]
 |[],_,_=>by simp[pick]
 |s::M,[],h=>by cases hb:b s<;>simp[pick,hb]
 |s::M,x::l,h=>by simp only[List.map_cons,h s (by simp),pick];exact zzc fun s hs=>h s (by simp[hs])
theorem U_any{P:Program}{K:Fr→Heap→Prop}{R':Fr→Heap→Prop}{X:List (Nat×(Fr→Heap→Prop))}{F:SA}{H:Heap}{n:Nat}{l0:List (Nat×IV)}{id:Nat}{l:List Oper}(hm:P.follows .mixedOrders=true)(T:List Nat)(n':Nat)
  {Γ:Type} (γ0:Γ) (R:List SA) (fl:Γ→List (Nat×IV)) (As:Γ→List SA) (M:List SM) (kd:List Bool) (hk:anyOk T n' l.toArray=true) (hn:n'≤l.length) (hM:slotsOk T n' M=true) (hkd:kdOk kd n' M=true) (hfl: ∀γ,dvs (l.take n') (valsOf (l.take n') (fl γ)) l0=fl γ) (hAl: ∀γ,(As γ).length=M.length)
  (hs:HS F (R++pick (iniB M) (As γ0)) H) (hP: ∀γ F H,HS F R H→AllP P l.toArray (fr n (fl γ)) H kd (l.take n') (fl γ))
  (hE:AllE (fun i o=> ∀γ F H,HS F (R++pick (preB M i) (As γ)) H→vcO P l.toArray none [o] (hold fun a' H'=> ∃γ',pick (kpV T n' i) (valsOf (l.take n') (fl γ'))=pick (kpV T n' i) (valsOf (l.take n') (fl γ))∧pick (kpA T M i) (As γ')=pick (kpA T M i) (As γ)∧gotO o.dst a' ((valsOf (l.take n') (fl γ')).getD i .junk)∧HS F (R++pick (postB M i) (As γ')) H') (fr n (fl γ)) H) 0 kd (l.take n'))
  (k: ∀γ H,HS F (R++pick (finB M) (As γ)) H→vcO P l.toArray none (l.drop n') (hold K) (fr n (fl γ)) H):W P (.region id l.toArray true) (outs K R' X) (fr n l0) H:=by
 have hvl: ∀γ,(valsOf (l.take n') (fl γ)).length=n':=fun γ=>by rw[kn];simp;omega
 have hkl:kd.length=n'∧ ∀i,i<n'→kd.getD i false=true∨ ∀s∈M,s.co≠some i∧i∉s.us∧s.pr≠some i:=by
  unfold kdOk at hkd
  rw[Bool.and_eq_true,List.all_eq_true] at hkd
  refine⟨by simpa using hkd.1,fun i hi=>?_⟩
  have:=hkd.2 i (by simpa using hi)
  rw[Bool.or_eq_true] at this
  refine this.imp (fun h=>h) fun h s hs=>?_
  rw[List.all_eq_true] at h
  have:=h s hs
  simpa [and_assoc] using this
 have hOb: ∀i oi,i<n'→l.toArray[i]?=some oi→Ob P l.toArray T n' n (l.toArray.toList.take n') l0 R (fun γ=>valsOf (l.take n') (fl γ)) As M i oi:=by
  intro i oi hi hoi
  have hoi':(l.take n')[i]?=some oi:=by rw[List.getElem?_take_of_lt hi];simpa using hoi
  have hki:i<kd.length:=by omega
  show Ob P l.toArray T n' n (l.take n') l0 R (fun γ=>valsOf (l.take n') (fl γ)) As M i oi
  cases hb:kd[i] with
  |true=>
   have h:=AllE_get hE (i:=i) (by simp[hki,hb]) hoi'
   rw[Nat.zero_add] at h
   intro γ F' H' hs'
   show vcO P l.toArray none [oi] _ (fr n (dvs (l.take n') (valsOf (l.take n') (fl γ)) l0)) H'
   rw[hfl]
   exact h γ F' H' hs'
  |false=>
   have hno:=(hkl.2 i hi).resolve_left (by simp[List.getD_eq_getElem?_getD,hki,hb])
   intro γ F' H' hs'
   have e1:pick (preB M i) (As γ)=[]:=zzc fun s hs=>by simp[(hno s hs).1,(hno s hs).2.1]
   have e2:pick (postB M i) (As γ)=[]:=zzc fun s hs=>by simp[(hno s hs).2.2,(hno s hs).2.1]
   rw[e1,List.append_nil] at hs'
   obtain⟨d,hd,h1⟩:=AllP_get (hP γ F' H' hs') (i:=i) (by simp[hki,hb]) hoi'
   show vcO P l.toArray none [oi] _ (fr n (dvs (l.take n') (valsOf (l.take n') (fl γ)) l0)) H'
   rw[hfl]
   refine vcO_mono (fun a' H2 hh=>?_) h1
   obtain⟨q1,q2⟩:=(show H2=H'∧a'.get d=(valsOf (l.take n') (fl γ)).getD i .junk from hh)
   subst q1
   exact⟨γ,rfl,rfl,by rw[hd];exact q2,by rw[e2,List.append_nil];exact hs'⟩
 intro B ro J S ra w hF hH hO
 obtain⟨d1,d2⟩:=drew_rel hH
 refine wpIn_region_any hm ?_
 have hnn:n'≤l.toArray.size:=by simpa using hn
 have:=any_preU (P:=P) (F:=F) (n:=n) (l0:=l0) (R:=R) (Q:=outs K R' X) (vals:=fun γ=>valsOf (l.take n') (fl γ)) hk hnn hM hvl hAl hOb (fun γ H hs=>by
   have:=yd _ _ _ (k γ H hs)
   show vcOps P l.toArray (l.drop n') _ (fr n (dvs (l.take n') (valsOf (l.take n') (fl γ)) l0)) H
   rw[hfl];exact this) n' (List.range n') (by simp) (Array.replicate l.toArray.size false) (by simp)
  (by
   symm
   apply List.filter_eq_self.2
   intro q hq
   have:q<l.toArray.size:=by simp at hq;omega
   simp at this
   simp[Array.getD,this])
  (fun i _ hi=>by simp at hi;simp[Array.getD,hi]) (fun q oq hoq hl=>by
   exfalso
   have hqs:q<l.toArray.size:=(Array.getElem?_eq_some_iff.1 hoq).1
   simp at hqs
   simp[Array.getD,hqs] at hl) γ0 H ?_ B ro J S ra w.drew (hF.less rfl fun t=>?_) d1 (hO.ext hH d2) d2
 ·rw[show n'+(l.toArray.size-n')=l.toArray.size by omega] at this
  exact this
 ·have hrf: ∀c,(Array.replicate l.toArray.size false).getD c false=false:=fun c=>by
   by_cases hc:c<l.length<;>simp[Array.getD,hc]
  refine hs.seps fun p h=>(zzI (b:=fun s=>s.pr==none) (fun s hsm hb A=>?_) (fun s hsm hb A=>?_)).2 (show Sep (pick (M.map fun s=>s.pr==none) (As γ0)) p from h)
  ·have hp:s.pr=none:=by simpa using hb
   exact act_t (actb_t (fun p h=>by rw[hp] at h;cases h) (fun c hc=>hrf c)) A
  ·cases hp:s.pr with
   |none=>rw[hp] at hb;simp at hb
   |some p=>exact act_f (actb_p hp (hrf p)) A
 ·by_cases hw: ∃j,dstAt (l.take n') j=some t
  ·left
   obtain⟨j,hj⟩:=hw
   simp only[pfr]
   rw[if_pos]
   rw[List.any_eq_true]
   refine⟨j,?_,?_⟩
   ·unfold dstAt at hj
    cases h:(l.take n')[j]? with
    |none=>rw[h] at hj;cases hj
    |some o=>simpa using (List.getElem?_eq_some_iff.1 h).1
   ·have:dstAt ((l.toArray).toList.take n') j=some t:=hj
    have hrf:(Array.replicate l.toArray.size false).getD j false=false:=by
     by_cases hc:j<l.length<;>simp[Array.getD,hc]
    rw[this,hrf];simp
  ·right
   have hw': ∀j,dstAt (l.take n') j≠some t:=fun j h=>hw ⟨j,h⟩
   simp only[pfr,fr_get]
   rw[if_neg]
   ·exact zzV hw'
   ·simp only[List.any_eq_true,not_exists,not_and]
    intro j _
    have:dstAt ((l.toArray).toList.take n') j≠some t:=hw' j
    simp[hw' j]
end Go.Proofs.Ytoojnagdenoknaa.IL
