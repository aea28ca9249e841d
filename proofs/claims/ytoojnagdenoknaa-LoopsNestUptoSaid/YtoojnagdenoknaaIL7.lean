/- The ideal logic, part 7: slices that are made, appended to and written. Nothing here speaks of a given program. -/
import Derived.Test.YtoojnagdenoknaaIL6
set_option linter.unusedSectionVars false
set_option linter.unnecessarySimpa false
set_option linter.unusedVariables false
set_option linter.unusedSimpArgs false
namespace Go.Proofs.Ytoojnagdenoknaa.IL
open Go Go.RowKit
theorem apart_rows{r i o E:Nat}(ho:o<E)(h:r≠i): ¬(i*E≤r*E+o∧r*E+o<i*E+E):=by
 rintro⟨h1,h2⟩
 rcases Nat.lt_or_gt_of_ne h with hlt|hgt
 ·have:(r+1)*E≤i*E:=Nat.mul_le_mul_right _ hlt
  rw[Nat.add_mul] at this;omega
 ·have:(i+1)*E≤r*E:=Nat.mul_le_mul_right _ hgt
  rw[Nat.add_mul] at this;omega
def RowsAt(J:Inj)(S:Sure)(E:Nat)(rows:List (List IV))(us:Array Value)(off:Nat):Prop:=
 ∀(i:Nat) (row:List IV) (o:Nat) (v:IV),rows[i]?=some row→row[o]?=some v→ ∃u,us[off+i*E+o]?=some u∧VR J S v u
def irows(E:Nat)(rows:List (List IV)):List (Nat×IV)→Option (List (List IV))
 |[]=>some rows
 |(i,v)::rest=>match v.cells with
  |some cs=>if cs.length=E∧i<rows.length then irows E (rows.set i cs) rest else none
  |none=>none
theorem rows_sound{J:Inj}{S:Sure}(E:Nat): ∀(parts:List (Nat×IV)) (parts':List (Nat×Value)) (rows:List (List IV)) (us:Array Value) (out:List (List IV)),
  parts.length=parts'.length→(∀(k i:Nat) (v:IV) (i':Nat) (u:Value),parts[k]?=some (i,v)→parts'[k]?=some (i',u)→i=i'∧VR J S v u)→
  (∀(i:Nat) (row:List IV),rows[i]?=some row→row.length=E)→us.size=rows.length*E→RowsAt J S E rows us 0→irows E rows parts=some out→
  ∃us',Instr.fill (fun i=>some (i*E,E)) us parts'=some us'∧us'.size=out.length*E∧out.length=rows.length∧(∀(i:Nat) (row:List IV),out[i]?=some row→row.length=E)∧RowsAt J S E out us' 0
 |[],[],rows,us,out,_,_,hE,hs,hR,h=>by
  simp only[irows,Option.some.injEq] at h
  subst h
  exact⟨us,rfl,hs,rfl,hE,hR⟩
 |[],_::_,_,_,_,hl,_,_,_,_,_=>by simp at hl
 |_::_,[],_,_,_,hl,_,_,_,_,_=>by simp at hl
 |(i,v)::rest,(i',u)::rest',rows,us,out,hl,hp,hE,hs,hR,h=>by
  obtain⟨rfl,hv⟩:=hp 0 i v i' u rfl rfl
  simp only[irows] at h
  split at h
  ·rename_i cs hcs
   split at h
   ·rename_i hle
    obtain⟨e1,e2⟩:=hv.cells hcs
    have hlt:i*E+E≤us.size:=by
     have:(i+1)*E≤rows.length*E:=Nat.mul_le_mul_right _ hle.2
     rw[Nat.add_mul] at this;omega
    have hE': ∀(r:Nat) (row:List IV),(rows.set i cs)[r]?=some row→row.length=E:=by
     intro r row hr
     rw[List.getElem?_set] at hr
     split at hr
     ·simp at hr;rw[←hr.2];exact hle.1
     ·exact hE r row hr
    have hstep:RowsAt J S E (rows.set i cs) (u.cells.zipIdx.foldl (fun cs (p:Value×Nat)=>cs.setIfInBounds (i*E+p.2) p.1) us) 0:=by
     intro r row o x hr ho
     have hoE:o<E:=by rw[←hE' r row hr];exact(List.getElem?_eq_some_iff.1 ho).1
     rw[←Array.foldl_toList,Array.toList_zipIdx,kZ (i*E) _ 0 us _ (by simp;omega)]
     simp only[Nat.add_zero,Nat.zero_add,Array.length_toList,←e1,hle.1]
     rw[List.getElem?_set] at hr
     split at hr
     ·rename_i hir
      subst hir
      simp at hr
      obtain⟨_,rfl⟩:=hr
      rw[if_pos (by omega)]
      have ho':o<u.cells.size:=by rw[←e1,hle.1];exact hoE
      exact⟨u.cells[o],by simp[ho'],e2 o x _ ho (by simp[ho'])⟩
     ·rename_i hir
      rw[if_neg (apart_rows hoE (fun e=>hir e.symm))]
      have:=hR r row o x hr ho
      simpa using this
    obtain⟨us',f1,f2,f3,f4,f5⟩:=rows_sound E rest rest' _ _ out (by simpa using hl) (fun k a b c d ha hb=>hp (k+1) a b c d (by simpa using ha) (by simpa using hb)) hE'
     (by rw[←Array.foldl_toList,Array.toList_zipIdx,kS];simpa using hs) hstep h
    refine⟨us',?_,f2,by simpa using f3,f4,f5⟩
    simp only[Instr.fill]
    rw[if_neg (by simp;omega)]
    exact f1
   ·cases h
  ·cases h
theorem zero_row{z:Value}{zs:List IV}(hz:zs=z.cells.toList.map ofConst){J:Inj}{S:Sure}(n E:Nat)(hE:zs.length=E):
  RowsAt J S E (List.replicate n zs) ((Array.range (n*E)).map (z.cells[· %z.cells.size]!)) 0:=by
 obtain⟨h1,h2⟩:=ki (J:=J) (S:=S) hz
 intro i row o v hi ho
 rw[List.getElem?_replicate] at hi
 split at hi
 ·rename_i hin
  cases hi
  have hoE:o<E:=by rw[←hE];exact(List.getElem?_eq_some_iff.1 ho).1
  have hlt:i*E+o<n*E:=by
   have:(i+1)*E≤n*E:=Nat.mul_le_mul_right _ hin
   rw[Nat.add_mul] at this;omega
  have hoz:o<z.cells.size:=by omega
  refine⟨z.cells[o],?_,h2 o v _ ho (by simp[hoz])⟩
  have hmod:(i*E+o)%z.cells.size=o:=by
   rw[show z.cells.size=E by omega,Nat.mul_comm,Nat.mul_add_mod,Nat.mod_eq_of_lt hoE]
  simp[hlt,hmod,hoz]
 ·cases hi
theorem zzB{zs:List IV}{n E:Nat}(hE:zs.length=E): ∀(i:Nat) (row:List IV),(List.replicate n zs)[i]?=some row→row.length=E:=by
 intro i row hi
 rw[List.getElem?_replicate] at hi
 split at hi
 ·cases hi;exact hE
 ·cases hi
def ibslice(P:Program)(t:TypeId)(n:Nat)(parts:List (Nat×IV)):Option Blk:=
 match tc P t with
 |none=>none
 |some C=>match C.kd with
  | .slice e=>match tc P e with
   |none=>none
   |some D=>match D.zero with
    |none=>none
    |some zs=>if zs.length=D.size∧n*D.size≤16777216 then match irows D.size (List.replicate n zs) parts with
     |some rows=>some ⟨D.size,rows⟩
     |none=>none else none
  |_=>none
theorem bslice_sound{P:Program}{t:TypeId}{n:Nat}{parts:Array (Nat×Operand)}{J:Inj}{S:Sure}{a:Fr}{ra:Act}(hF:RelF J S a ra){b:Blk}(h:ibslice P t n (parts.toList.map fun p=>(p.1,a.ev p.2))=some b)
  {H:Heap} {w:World} (hH:RelH J S H w) (k:Nat):OutV P (Instr.buildSlice t n (parts.map fun(i,x)=>(i,ra.eval x))) J S H w (.sb (H.fresh k) 0 n true) (H.new k b):=by
 unfold ibslice at h
 split at h
 ·cases h
 ·rename_i C hC
  obtain⟨i,d,hinf,hu,hsz,hby,hag,hzero,hkd,hflat⟩:=zZ hC
  split at h
  ·rename_i e hk
   rw[hk] at hkd;have:=yK hkd;subst this
   split at h
   ·cases h
   ·rename_i D hD
    obtain⟨i',d',hinf',hu',hsz',hby',hag',hzero',hkd',hflat'⟩:=zZ hD
    split at h
    ·cases h
    ·rename_i zs hz
     obtain⟨z,hz1,hz2⟩:=hzero' zs hz
     have hzr:=ki (J:=J) (S:=S) hz2
     split at h
     ·rename_i hsz2
      split at h
      ·rename_i rows hrows
       cases h
       obtain⟨p1,p2⟩:=parts_rel hF parts
       obtain⟨us',f1,f2,f3,f4,f5⟩:=rows_sound D.size _ _ (List.replicate n zs) ((Array.range (n*D.size)).map (z.cells[· %z.cells.size]!)) rows p1 p2 (zzB hsz2.1) (by simp) (zero_row hz2 n D.size hsz2.1) hrows
       obtain⟨J',h1,h2,h3⟩:=rel_new hH k D.size rows us' e f4 (by omega) (fun i row o v hi ho=>by simpa using f5 i row o v hi ho)
       have hn:rows.length=n:=by simpa using f3
       refine⟨.slice (some ⟨w.heap.size,0,none⟩) n n,_,J',?_,?_,h2,h3⟩
       ·have hs:(sizeOf e).run P w= .ok D.size w:=by rw[yF (zw hu')];simp[szOf,hinf',hsz']
        simp only[Instr.buildSlice,Sem.run_bind,run_underlying hu,Result.andThen_ok,hs]
        rw[if_neg (by omega)]
        have hf: ∀(zc:Array Value),(n*D.size=0∨zc=z.cells)→Instr.fill (fun i=>some (i*D.size,D.size)) ((Array.range (n*D.size)).map (fun x=>zc[x%zc.size]!)) (parts.map fun(i,x)=>(i,ra.eval x)).toList=some us':=by
         intro zc hz
         rcases hz with hz|hz
         ·rw[hz] at f1 ⊢
          simp only[Array.range_zero',Array.map_empty] at f1 ⊢
          exact f1
         ·rw[hz];exact f1
        by_cases h0:n*D.size=0
        ·simp only[if_pos h0,Sem.run_pure,Result.andThen_ok,hf #[] (.inl h0),newRow,Sem.run_bind,run_newObj]
         rfl
        ·simp only[if_neg h0,Sem.run_bind,zeroValue,typeInfo,run_program,hinf',hz1,Sem.run_pure,Result.andThen_ok,hf z.cells (.inr rfl),newRow,run_newObj]
         rfl
       ·have hh:=VR.sb (S:=S) (i:=0) (len:=n) (c:=n) (full:=true) (ad:=⟨w.heap.size,0,none⟩) h1 (Nat.le_refl _) (fun _=>⟨by simp,by rw[hn] at f2;simp[f2]⟩) (fun _=>rfl)
        exact hh
      ·cases h
     ·cases h
  ·cases h
def istore(P:Program)(H:Heap)(t:TypeId)(p v:IV):Option Eff:=
 match tc P t,p,v.cells with
 |some C,.pb id i o,some cs=>match H.get id with
  |none=>none
  |some b=>match b.rows[i]? with
   |none=>none
   |some row=>if cs.length=C.size∧o+cs.length≤row.length∧(∀x∈cs,x.one=true) then some (.put id ⟨b.E,b.rows.set i (splice row o cs)⟩) else none
 |_,_,_=>none
theorem store_sound{P:Program}{H:Heap}{t:TypeId}{p v:IV}{e:Eff}(h:istore P H t p v=some e){J:Inj}{S:Sure}{w:World}(hH:RelH J S H w){u u':Value}(hp:VR J S p u)(hv:VR J S v u')(k:Nat):
  ∃w' J',(Instr.storeAt t u u').run P w= .ok () w'∧RelH J' S (e.app H k) w'∧Ext J S H w J' S (e.app H k) w':=by
 unfold istore at h
 split at h
 ·rename_i C id i o cs hC hcs
  obtain⟨inf,d,hinf,hu,hsz,hby,hag,hzero,hkd,hflat⟩:=zZ hC
  split at h
  ·cases h
  ·rename_i b hb
   split at h
   ·cases h
   ·rename_i row hrow
    split at h
    ·rename_i hc
     cases h
     obtain⟨c1,c2,c3⟩:=hc
     cases hp with
     |pb hL hm=>
      rename_i L
      obtain⟨L',hL',hat⟩:=hH.blk id b hb
      rw[hL] at hL';cases hL'
      replace hat:=hat.reg hm
      obtain⟨us,ty,g1,g2,g3⟩:=hat.cell
      obtain⟨e1,e2⟩:=hv.cells hcs
      have hrl:row.length=b.E:=hat.row i row hrow
      have hil:i<b.rows.length:=(List.getElem?_eq_some_iff.1 hrow).1
      have hfit:L.ro+i*L.E+o+u'.cells.size≤us.size:=by
       have h1:=hat.fit
       have:(i+1)*b.E≤b.rows.length*b.E:=Nat.mul_le_mul_right _ hil
       rw[Nat.add_mul] at this
       rw[hat.E,g2];omega
      have hone: ∀x∈u'.cells.toList,x.oneCell'=true:=by
       intro x hx
       obtain⟨q,hq,rfl⟩:=List.getElem_of_mem hx
       have hq':q<cs.length:=by rw[e1];simpa using hq
       have:=e2 q cs[q] (u'.cells.toList[q]) (by simp[hq']) (by rw[←Array.getElem?_toList];exact List.getElem?_eq_getElem hq)
       exact this.one (c3 _ (List.getElem_mem hq'))
      have hst:=run_storeCells_at P L.rb (L.ro+i*L.E+o) ty u'.cells.toList 0 us w g1 (by simpa using hfit) hone
      simp only[Nat.add_zero] at hst
      have hs:(sizeOf t).run P w= .ok C.size w:=by rw[yF (zw hu)];simp[szOf,hinf,hsz]
      have hsp:(splice row o cs).length=row.length:=zzS c2
      obtain⟨r1,r2⟩:=rel_write hH hb hL g1 _ (kD us (L.ro+i*L.E+o) u'.cells.toList (by simpa using hfit)) (b.rows.set i (splice row o cs)) (by simp)
       (fun r x hr=>by
        rw[List.getElem?_set] at hr
        split at hr
        ·cases hr;rw[hsp,hrl]
        ·exact hat.row r x hr)
       (fun r x q y hr hq=>by
        rw[zzZ us _ _ (by simpa using hfit),hat.E]
        simp only[Array.length_toList,←e1]
        rw[List.getElem?_set] at hr
        split at hr
        ·rename_i hir
         subst hir
         simp at hr
         obtain⟨_,rfl⟩:=hr
         rw[splice_get c2] at hq
         split at hq
         ·rename_i hqo
          rw[if_pos (by omega)]
          have hq':q-o<u'.cells.size:=by omega
          refine⟨u'.cells[q-o],?_,e2 _ y _ hq (by simp[hq'])⟩
          rw[show L.ro+i*b.E+q-(L.ro+i*b.E+o)=q-o by omega]
          simp[hq']
         ·rename_i hqo
          rw[if_neg (by omega)]
          exact g3 i row q y hrow hq
        ·rename_i hir
         have hqE:q<b.E:=by rw[←hat.row r x hr];exact(List.getElem?_eq_some_iff.1 hq).1
         have:=apart_rows (r:=r) (i:=i) hqE (fun e=>hir e.symm)
         rw[if_neg (by omega)]
         exact g3 r x q y hr hq)
      refine⟨_,J,?_,r1,r2⟩
      simp only[Instr.storeAt,Instr.sureAddr,Sem.run_bind,Sem.run_pure,Result.andThen_ok,storeVar,hs]
      rw[if_neg (by omega)]
      exact hst
    ·cases h
 ·cases h
def imake(P:Program)(t:TypeId)(l c:IV):Option (Blk×Nat×Bool):=
 match tc P t,l,c with
 |some C,.int _ l,.int _ c=>match C.kd with
  | .slice e=>match tc P e with
   |none=>none
   |some D=>match D.zero with
    |none=>none
    |some zs=>if 0≤l∧l≤c∧(D.bytes:Int)*c≤140737488355328∧c≤140737488355328∧zs.length=D.size then some (⟨D.size,List.replicate l.toNat zs⟩,l.toNat,l==c) else none
  |_=>none
 |_,_,_=>none
theorem make_sound{P:Program}{t:TypeId}{l c:IV}{b:Blk}{n:Nat}{full:Bool}(h:imake P t l c=some (b,n,full)){J:Inj}{S:Sure}{H:Heap}{w:World}(hH:RelH J S H w){u u':Value}(hl:VR J S l u)(hc:VR J S c u')(k:Nat):
  OutV P (Instr.makeSlice t u u') J S H w (.sb (H.fresh k) 0 n full) (H.new k b):=by
 unfold imake at h
 split at h
 ·rename_i C kl l' kc c' hC
  cases hl;cases hc
  obtain⟨i,d,hinf,hu,hsz,hby,hag,hzero,hkd,hflat⟩:=zZ hC
  split at h
  ·rename_i e hk
   rw[hk] at hkd;have:=yK hkd;subst this
   split at h
   ·cases h
   ·rename_i D hD
    obtain⟨i',d',hinf',hu',hsz',hby',hag',hzero',hkd',hflat'⟩:=zZ hD
    split at h
    ·cases h
    ·rename_i zs hz
     obtain⟨z,hz1,hz2⟩:=hzero' zs hz
     split at h
     ·rename_i hcond
      cases h
      obtain⟨a1,a2,a3,a4,a5⟩:=hcond
      have hrun:=run_make (P:=P) w t e i' z hu hinf' hz1 kl kc l' c' a1 a2 (by rw[hby'];omega) (by omega)
      have hR:RowsAt J S D.size (List.replicate l'.toNat zs) (madeCells z.cells (c'.toNat*i'.size)) 0:=by
       intro q row o v hq ho
       have:=zero_row hz2 (J:=J) (S:=S) c'.toNat D.size a5 q row o v (by
        rw[List.getElem?_replicate] at hq ⊢
        split at hq
        ·rw[if_pos (by omega)];exact hq
        ·cases hq) ho
       rw[hsz']
       exact this
      obtain⟨J',h1,h2,h3⟩:=rel_new hH k D.size (List.replicate l'.toNat zs) (madeCells z.cells (c'.toNat*i'.size)) e (zzB a5)
       (by rw[size_madeCells,List.length_replicate,hsz'];exact Nat.mul_le_mul_right _ (by omega)) (fun i row o v hi ho=>by simpa using hR i row o v hi ho)
      refine⟨_,_,J',hrun,?_,h2,h3⟩
      exact VR.sb h1 (by omega) (fun _=>⟨by simp,by rw[size_madeCells,hsz'];simp⟩) (fun hf=>by
       have:l'=c':=by simpa using hf
       omega)
     ·cases h
  ·cases h
 ·cases h
def srows(H:Heap)(E:Nat)(x:IV):Option (List (List IV)):=
 match x with
 | .nils=>some []
 | .sim rows _=>if ∀r∈rows,r.length=E then some rows else none
 | .sb id i n _=>match H.get id with
  |some b=>if b.E=E∧i+n≤b.rows.length then some ((b.rows.drop i).take n) else none
  |none=>none
 |_=>none
theorem kP{J:Inj}{S:Sure}{H:Heap}{w:World}(hH:RelH J S H w){E:Nat}{x:IV}{rows:List (List IV)}(h:srows H E x=some rows){u:Value}(hx:VR J S x u):
  (∀r∈rows,r.length=E)∧ ∃a c,u= .slice a rows.length c∧rows.length≤c∧(a=none→c=0)∧ ∀ad,a=some ad→ ∀(i:Nat) (row:List IV) (o:Nat) (v:IV),rows[i]?=some row→row[o]?=some v→ ∃y,w.cell? (ad.add (i*E+o))=some y∧VR J S v y:=by
 unfold srows at h
 split at h
 ·cases h;cases hx
  exact⟨by simp,none,0,rfl,by simp,by simp,by simp⟩
 ·rename_i rows' full
  split at h
  ·rename_i hE
   cases h
   refine⟨hE,?_⟩
   cases hx with
   |sim hE' hS hV hc hf=>
    rename_i c E' base f
    refine⟨some base,c,rfl,hc,by simp,fun ad had i row o v hi ho=>?_⟩
    cases had
    have:E'=E:=by rw[←hE' i row hi];exact hE row (List.mem_of_getElem? hi)
    subst this
    exact⟨f i o,(hH.sure _ _ (hS i row o v hi ho)).1,hV i row o v hi ho⟩
   |simnil=>exact⟨none,0,rfl,by simp,by simp,by simp⟩
  ·cases h
 ·rename_i id i0 n full
  split at h
  ·rename_i b hb
   split at h
   ·rename_i hc
    cases h
    obtain⟨c1,c2⟩:=hc
    cases hx with
    |sb hL hcap hz hf hm=>
     rename_i L c ad
     obtain⟨L',hL',hat⟩:=hH.blk id b hb
     rw[hL] at hL';cases hL'
     replace hat:=hat.reg hm
     obtain⟨us,ty,g1,g2,g3⟩:=hat.cell
     have hlen:((b.rows.drop i0).take n).length=n:=by simp;omega
     refine⟨fun r hr=>?_,some ad,c,by rw[hlen],by rw[hlen];exact hcap,by simp,fun ad' had i row o v hi ho=>?_⟩
     ·have:=List.mem_of_mem_drop (List.mem_of_mem_take hr)
      obtain⟨q,hq,rfl⟩:=List.getElem_of_mem this
      rw[←c1];exact hat.row q _ (by simp[hq])
     ·cases had
      rw[List.getElem?_take] at hi
      split at hi
      ·rename_i hin
       rw[List.getElem?_drop] at hi
       obtain⟨z1,z2⟩:=hz (by omega)
       subst z1
       obtain⟨y,hy,hvy⟩:=g3 _ row o v hi ho
       refine⟨y,?_,hvy⟩
       rw[yO,zzP g1,←hy,hat.E,←c1]
       congr 1
       rw[Nat.add_mul];omega
      ·cases hi
   ·cases h
  ·cases h
 ·cases h
theorem zzY{J:Inj}{S:Sure}{w:World}{E:Nat}{rows:List (List IV)}(hE: ∀r∈rows,r.length=E){ad:Addr}
  (h: ∀(i:Nat) (row:List IV) (o:Nat) (v:IV),rows[i]?=some row→row[o]?=some v→ ∃y,w.cell? (ad.add (i*E+o))=some y∧VR J S v y):
  ∃news:List Value,news.length=rows.length*E∧(∀j u,news[j]?=some u→w.cell? (ad.add j)=some u)∧
   (∀(i:Nat) (row:List IV) (o:Nat) (v:IV),rows[i]?=some row→row[o]?=some v→ ∃y,news[i*E+o]?=some y∧VR J S v y)∧
   ((∀r∈rows,∀v∈r,v.one=true)→ ∀u∈news,u.oneCell'=true):=by
 have hall: ∀j,j<rows.length*E→ ∃(i o:Nat) (row:List IV) (v:IV) (y:Value),j=i*E+o∧rows[i]?=some row∧row[o]?=some v∧w.cell? (ad.add j)=some y∧VR J S v y:=by
  intro j hj
  have hEpos:0<E:=by
   rcases Nat.eq_zero_or_pos E with h0|h0
   ·rw[h0] at hj;simp at hj
   ·exact h0
  have hi:j/E<rows.length:=by rw[Nat.div_lt_iff_lt_mul hEpos];exact hj
  have ho:j%E<E:=Nat.mod_lt _ hEpos
  have hrl:rows[j/E].length=E:=hE _ (List.getElem_mem hi)
  obtain⟨y,hy,hv⟩:=h (j/E) rows[j/E] (j%E) (rows[j/E][j%E]'(by omega)) (by simp[hi]) (by simp)
  have hj':j/E*E+j%E=j:=by rw[Nat.mul_comm];exact Nat.div_add_mod j E
  rw[hj'] at hy
  exact⟨j/E,j%E,rows[j/E],rows[j/E][j%E]'(by omega),y,hj'.symm,by simp[hi],by simp,hy,hv⟩
 refine⟨(List.range (rows.length*E)).map fun j=>(w.cell? (ad.add j)).getD undef,by simp,fun j u hj=>?_,fun i row o v hi ho=>?_,fun hone u hu=>?_⟩
 ·simp only[List.getElem?_map,Option.map_eq_some_iff] at hj
  obtain⟨q,hq,rfl⟩:=hj
  obtain⟨hlt,rfl⟩:=List.getElem?_eq_some_iff.1 hq
  simp at hlt
  simp only[List.getElem_range] at*
  obtain⟨_,_,_,_,y,_,_,_,hy,_⟩:=hall j hlt
  rw[hy];rfl
 ·obtain⟨y,hy,hv⟩:=h i row o v hi ho
  have hoE:o<E:=by rw[←hE row (List.mem_of_getElem? hi)];exact(List.getElem?_eq_some_iff.1 ho).1
  have hil:i<rows.length:=(List.getElem?_eq_some_iff.1 hi).1
  have hlt:i*E+o<rows.length*E:=by
   have:(i+1)*E≤rows.length*E:=Nat.mul_le_mul_right _ hil
   rw[Nat.add_mul] at this;omega
  exact⟨y,by simp[hlt,hy],hv⟩
 ·simp only[List.mem_map,List.mem_range] at hu
  obtain⟨j,hj,rfl⟩:=hu
  obtain⟨i,o,row,v,y,_,hi,ho,hy,hv⟩:=hall j hj
  rw[hy]
  exact hv.one (hone row (List.mem_of_getElem? hi) v (List.mem_of_getElem? ho))
end Go.Proofs.Ytoojnagdenoknaa.IL
