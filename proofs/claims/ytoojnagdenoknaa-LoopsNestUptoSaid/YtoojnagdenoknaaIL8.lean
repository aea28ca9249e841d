/- The ideal logic, part 8: append, copy and clear. Nothing here speaks of a given program. -/
import Derived.Test.YtoojnagdenoknaaIL7
set_option linter.unusedSectionVars false
set_option linter.unnecessarySimpa false
set_option linter.unusedVariables false
set_option linter.unusedSimpArgs false
namespace Go.Proofs.Ytoojnagdenoknaa.IL
open Go Go.RowKit
section runs
variable {P:Program} (w:World)
theorem run_app_nil(t tx ty e e2:TypeId)(i:TypeInfo)(z:Value)(ht:P.underlying t=some (.slice e))(htx:P.underlying tx=some (.slice e2))(hi:P.info? e=some i)(hz:i.zero=some z)
  (a:Addr) (n c:Nat) (news:List Value) (hl:news.length=n*i.size) (hnews: ∀j v,news[j]?=some v→w.cell? (a.add j)=some v)
  (h0:0<n) (h63:(n:Int)≤9223372036854775807) (h48:n*i.bytes≤281474976710656):
  (Builtin.append_ #[t,tx] ty #[.slice none 0 0,.slice (some a) n c]).run P w=
   .ok (.slice (some ⟨w.heap.size,0,none⟩) n (grownCap w n 0 e)) (w.drew.alloc (.cells (news.toArray++Builtin.zeroCells z.cells (grownCap w n 0 e-n)) e)):=by
 have hn:n≠0:=by omega
 have h63': ¬(9223372036854775807<(n:Int)):=by omega
 have h48': ¬(281474976710656<Builtin.nextslicecap n 0*i.bytes):=by rw[nextslicecap_zero h0];omega
 have hf:=run_firstCells_some (P:=P) w.drew i.size n a n c news hl (by simpa using hnews)
 simp[Builtin.append_,run_underlying ht,run_underlying htx,sizeOf,typeInfo,zeroValue,hi,hz,Builtin.lenOf,hn,h63',h48',Question.forced,run_firstCells_none,hf,newRow,grownCap]
theorem run_app_grow(t tx ty e e2:TypeId)(i:TypeInfo)(z:Value)(ht:P.underlying t=some (.slice e))(htx:P.underlying tx=some (.slice e2))(hi:P.info? e=some i)(hz:i.zero=some z)
  (b:Addr) (sLen sCap:Nat) (olds:List Value) (hlo:olds.length=sLen*i.size) (holds: ∀j v,olds[j]?=some v→w.cell? (b.add j)=some v)
  (a:Addr) (n c:Nat) (news:List Value) (hl:news.length=n*i.size) (hnews: ∀j v,news[j]?=some v→w.cell? (a.add j)=some v)
  (hg:sCap<sLen+n) (h63:((sLen+n:Nat):Int)≤9223372036854775807) (hfit:Builtin.nextslicecap (sLen+n) sCap*i.bytes≤281474976710656):
  (Builtin.append_ #[t,tx] ty #[.slice (some b) sLen sCap,.slice (some a) n c]).run P w=
   .ok (.slice (some ⟨w.heap.size,0,none⟩) (sLen+n) (grownCap w (sLen+n) sCap e))
    (w.drew.alloc (.cells ((olds++news).toArray++Builtin.zeroCells z.cells (grownCap w (sLen+n) sCap e-(sLen+n))) e)):=by
 have hn: ¬(sLen+n≤sCap):=by omega
 have h63': ¬(9223372036854775807<((sLen:Int)+(n:Int))):=by omega
 have h48': ¬(281474976710656<Builtin.nextslicecap (sLen+n) sCap*i.bytes):=by omega
 have hf:=run_firstCells_some (P:=P) w.drew i.size n a n c news hl (by simpa using hnews)
 have hfo:=run_firstCells_some (P:=P) w.drew i.size sLen b sLen sCap olds hlo (by simpa using holds)
 simp[Builtin.append_,run_underlying ht,run_underlying htx,sizeOf,typeInfo,zeroValue,hi,hz,Builtin.lenOf,hn,h63',h48',Question.forced,hf,hfo,newRow,grownCap]
 congr 2
 apply Array.ext'
 simp[List.append_assoc]
theorem run_app_room(t tx ty e e2:TypeId)(i:TypeInfo)(ht:P.underlying t=some (.slice e))(htx:P.underlying tx=some (.slice e2))(hi:P.info? e=some i)
  (g o sLen sCap:Nat) (cur:Array Value) (ct:TypeId) (hg:w.heap[g]?=some (.cells cur ct (0,0)))
  (a:Addr) (m c:Nat) (news:List Value) (hl:news.length=m*i.size) (hnews: ∀j u,news[j]?=some u→w.cell? (a.add j)=some u) (h1: ∀u∈news,u.oneCell'=true)
  (hroom:sLen+m≤sCap) (hfit:o+sLen*i.size+news.length≤cur.size):
  (Builtin.append_ #[t,tx] ty #[.slice (some ⟨g,o,none⟩) sLen sCap,.slice (some a) m c]).run P w=
   .ok (.slice (some ⟨g,o,none⟩) (sLen+m) sCap) (w.setRow g (cur.toList.take (o+sLen*i.size)++news++cur.toList.drop (o+sLen*i.size+news.length)).toArray):=by
 have hf:=run_firstCells_some (P:=P) w i.size m a m c news hl hnews
 have hst:=run_storeCells_at P g (o+sLen*i.size) ct news 0 cur w hg (by simpa using hfit) h1
 simp only[Nat.add_zero] at hst
 simp[Builtin.append_,run_underlying ht,run_underlying htx,sizeOf,typeInfo,hi,Builtin.lenOf,hroom,hf,yO,hst]
theorem run_app_zero(t tx ty e e2:TypeId)(i:TypeInfo)(ht:P.underlying t=some (.slice e))(htx:P.underlying tx=some (.slice e2))(hi:P.info? e=some i)
  (b:Option Addr) (n c:Nat) (hc:n≤c) (a:Option Addr) (k:Nat):
  (Builtin.append_ #[t,tx] ty #[.slice b n c,.slice a 0 k]).run P w= .ok (.slice b n c) w:=by
 have hf:(Builtin.firstCells i.size 0 (.slice a 0 k)).run P w= .ok #[] w:=by
  cases a with
  |none=>exact run_firstCells_none w _ _ _ _
  |some a=>exact run_firstCells_some w _ 0 a 0 k [] (by simp) (by simp)
 cases b with
 |none=>simp[Builtin.append_,run_underlying ht,run_underlying htx,sizeOf,typeInfo,hi,Builtin.lenOf,hc,hf]
 |some b=>simp[Builtin.append_,run_underlying ht,run_underlying htx,sizeOf,typeInfo,hi,Builtin.lenOf,hc,hf,storeCells]
end runs
def iapp(P:Program)(H:Heap)(k:Nat)(t tx:TypeId)(s x:IV):Option (IV×Eff):=
 match tc P t,tc P tx with
 |some C,some CX=>match C.kd,CX.kd with
  | .slice e,.slice _=>match tc P e with
   |none=>none
   |some D=>match D.zero,srows H D.size x,srows H D.size s with
    |some zs,some new,some old=>
     if new.length=0 then some (s,.none) else
     if zs.length=D.size∧(old.length+new.length)*D.bytes≤140737488355328∧old.length+new.length≤140737488355328∧(∀r∈new,∀v∈r,v.one=true) then
      match s with
      | .nils=>some (.sb (H.fresh k) 0 new.length false,.new ⟨D.size,new⟩)
      | .sim _ true=>some (.sb (H.fresh k) 0 (old.length+new.length) false,.new ⟨D.size,old++new⟩)
      | .sb _ _ _ true=>some (.sb (H.fresh k) 0 (old.length+new.length) false,.new ⟨D.size,old++new⟩)
      | .sb id _ _ false=>some (.sb (H.fresh k) 0 (old.length+new.length) false,.move id ⟨D.size,old++new⟩)
      |_=>none
     else none
    |_,_,_=>none
  |_,_=>none
 |_,_=>none
theorem rows_join{J:Inj}{S:Sure}{E:Nat}{r1 r2:List (List IV)}{l1 l2:List Value}{tail:Array Value}(h1:l1.length=r1.length*E)
  (a1: ∀(i:Nat) (row:List IV) (o:Nat) (v:IV),r1[i]?=some row→row[o]?=some v→ ∃y,l1[i*E+o]?=some y∧VR J S v y)
  (a2: ∀(i:Nat) (row:List IV) (o:Nat) (v:IV),r2[i]?=some row→row[o]?=some v→ ∃y,l2[i*E+o]?=some y∧VR J S v y):
  RowsAt J S E (r1++r2) ((l1++l2).toArray++tail) 0:=by
 intro i row o v hi ho
 have put: ∀(q:Nat) (y:Value),(l1++l2)[q]?=some y→((l1++l2).toArray++tail)[q]?=some y:=by
  intro q y hq
  have hlt:q<(l1++l2).length:=(List.getElem?_eq_some_iff.1 hq).1
  rw[Array.getElem?_append_left (by simpa using hlt)]
  simpa using hq
 rw[Nat.zero_add]
 by_cases hlt:i<r1.length
 ·rw[List.getElem?_append_left hlt] at hi
  obtain⟨y,hy,hv⟩:=a1 i row o v hi ho
  refine⟨y,put _ _ ?_,hv⟩
  rw[List.getElem?_append_left (List.getElem?_eq_some_iff.1 hy).1]
  exact hy
 ·rw[List.getElem?_append_right (by omega)] at hi
  obtain⟨y,hy,hv⟩:=a2 _ row o v hi ho
  refine⟨y,put _ _ ?_,hv⟩
  have e:i*E+o=l1.length+((i-r1.length)*E+o):=by
   rw[h1]
   have:i=r1.length+(i-r1.length):=by omega
   rw[this,Nat.add_mul]
   simp;omega
  rw[e,List.getElem?_append_right (by omega),Nat.add_sub_cancel_left]
  exact hy
theorem sim_full{J:Inj}{S:Sure}{rows:List (List IV)}{a:Option Addr}{n c:Nat}(h:VR J S (.sim rows true) (.slice a n c)):c=n:=by
 cases h with
 |sim _ _ _ _ hf=>exact hf rfl
 |simnil=>rfl
theorem sb_inv{J:Inj}{S:Sure}{id:Id}{i n m c:Nat}{full:Bool}{a:Option Addr}(h:VR J S (.sb id i n full) (.slice a m c)):
  ∃L ad,a=some ad∧m=n∧J id=some L∧n≤c∧(c≠0→ad=⟨L.rb,L.ro+i*L.E,none⟩∧L.ro+(i+c)*L.E≤L.sz)∧(full=true→c=n)∧L.mp=false:=by
 cases h with
 |sb hL hc hz hf hm=>exact⟨_,_,rfl,rfl,hL,hc,hz,hf,hm⟩
theorem drew_rel{J:Inj}{S:Sure}{H:Heap}{w:World}(hH:RelH J S H w):RelH J S H w.drew∧Ext J S H w J S H w.drew:=⟨hH.same rfl,.same rfl rfl rfl rfl⟩
theorem app_sound{P:Program}{H:Heap}{k:Nat}{t tx ty:TypeId}{s x v:IV}{e:Eff}(h:iapp P H k t tx s x=some (v,e)){J:Inj}{S:Sure}{w:World}(hH:RelH J S H w){u u':Value}(hs:VR J S s u)(hx:VR J S x u'):
  OutV P (Builtin.append_ #[t,tx] ty #[u,u']) J S H w v (e.app H k):=by
 unfold iapp at h
 split at h
 ·rename_i C CX hC hCX
  obtain⟨i0,d0,hinf0,hu0,hsz0,hby0,hag0,hzero0,hkd0,hflat0⟩:=zZ hC
  obtain⟨i1,d1,hinf1,hu1,hsz1,hby1,hag1,hzero1,hkd1,hflat1⟩:=zZ hCX
  split at h
  ·rename_i el el2 hk hk2
   rw[hk] at hkd0;have:=yK hkd0;subst this
   rw[hk2] at hkd1;have:=yK hkd1;subst this
   split at h
   ·cases h
   ·rename_i D hD
    obtain⟨i,d,hinf,hu,hsz,hby,hag,hzero,hkd,hflat⟩:=zZ hD
    split at h
    ·rename_i zs new old hz hnew hold
     obtain⟨z,hz1,hz2⟩:=hzero zs hz
     obtain⟨nE,an,cn,rfl,hcn,hann,hnr⟩:=kP hH hnew hx
     obtain⟨oE,ao,co,rfl,hco,haon,hor⟩:=kP hH hold hs
     split at h
     ·rename_i h0
      cases h
      refine⟨.slice ao old.length co,w,J,?_,hs,hH,.refl⟩
      rw[h0]
      exact run_app_zero w t tx ty el el2 i hu0 hu1 hinf ao _ co hco an cn
     ·rename_i h0
      split at h
      ·rename_i hc
       obtain⟨c1,c2,c3,c4⟩:=hc
       have hzsz:z.cells.size=D.size:=by rw[←c1,hz2];simp
       obtain⟨an',rfl⟩: ∃a,an=some a:=by
        cases an with
        |none=>have:=hann rfl;omega
        |some a=>exact⟨a,rfl⟩
       obtain⟨news,n1,n2,n3,n4⟩:=zzY nE (hnr an' rfl)
       have hfits: ∀cap,cap<old.length+new.length→Builtin.nextslicecap (old.length+new.length) cap*i.bytes≤281474976710656:=fun cap hcap=>growslice_fits hcap (by rw[hby];exact c2)
       have grow: ∀(H2:Heap),RelH J S H2 w→(∃q,Ext J S H w J S H2 w∧q=0)→(co<old.length+new.length)→ ∀(hfr:H2.fresh k=H.fresh k),
         OutV P (Builtin.append_ #[t,tx] ty #[.slice ao old.length co,.slice (some an') new.length cn]) J S H w (.sb (H.fresh k) 0 (old.length+new.length) false) (H2.new k ⟨D.size,old++new⟩):=by
        intro H2 hH2 hExt hcap hfr
        obtain⟨_,hExt,_⟩:=hExt
        have hrun: ∃(olds:List Value) (cap:Nat),olds.length=old.length*D.size∧old.length+new.length≤cap∧(∀(i:Nat) (row:List IV) (o:Nat) (v:IV),old[i]?=some row→row[o]?=some v→ ∃y,olds[i*D.size+o]?=some y∧VR J S v y)∧
          (Builtin.append_ #[t,tx] ty #[.slice ao old.length co,.slice (some an') new.length cn]).run P w=
           .ok (.slice (some ⟨w.heap.size,0,none⟩) (old.length+new.length) cap) (w.drew.alloc (.cells ((olds++news).toArray++Builtin.zeroCells z.cells (cap-(old.length+new.length))) el)):=by
         cases ao with
         |none=>
          have hco0:=haon rfl
          subst hco0
          have ho0:old=[]:=List.length_eq_zero_iff.1 (by omega)
          subst ho0
          refine⟨[],grownCap w new.length 0 el,by simp,by simpa using grownCap_ge w new.length 0 el,by simp,?_⟩
          have:=run_app_nil (P:=P) w t tx ty el el2 i z hu0 hu1 hinf hz1 an' new.length cn news (by rw[hsz];exact n1) n2 (by omega) (by simp at c3;omega) (by rw[hby];simp at c2;omega)
          simpa using this
         |some ao'=>
          obtain⟨olds,o1,o2,o3,o4⟩:=zzY oE (hor ao' rfl)
          refine⟨olds,grownCap w (old.length+new.length) co el,o1,grownCap_ge _ _ _ _,o3,?_⟩
          exact run_app_grow (P:=P) w t tx ty el el2 i z hu0 hu1 hinf hz1 ao' old.length co olds (by rw[hsz];exact o1) o2 an' new.length cn news (by rw[hsz];exact n1) n2 hcap (by omega) (hfits co hcap)
        obtain⟨olds,cap,o1,hcap2,o3,hrun⟩:=hrun
        have hsize:((olds++news).toArray++Builtin.zeroCells z.cells (cap-(old.length+new.length))).size=cap*D.size:=by
         rw[Array.size_append,List.size_toArray,List.length_append,o1,n1]
         have:(Builtin.zeroCells z.cells (cap-(old.length+new.length))).size=(cap-(old.length+new.length))*D.size:=by simp[Builtin.zeroCells,hzsz]
         rw[this,←Nat.add_mul,←Nat.add_mul]
         congr 1;omega
        obtain⟨d1,d2⟩:=drew_rel hH2
        obtain⟨J',r1,r2,r3⟩:=rel_new d1 k D.size (old++new) ((olds++news).toArray++Builtin.zeroCells z.cells (cap-(old.length+new.length))) el
         (fun i row hi=>by
          have:=List.mem_of_getElem? hi
          rcases List.mem_append.1 this with hm|hm
          ·exact oE _ hm
          ·exact nE _ hm)
         (by rw[hsize,List.length_append];exact Nat.mul_le_mul_right _ hcap2)
         (fun i row o v hi ho=>by
          have:=rows_join (tail:=Builtin.zeroCells z.cells (cap-(old.length+new.length))) o1 o3 n3 i row o v hi ho
          simpa using this)
        refine⟨_,_,J',hrun,?_,r2,(hExt.trans d2).trans r3⟩
        rw[hfr] at r1
        exact VR.sb r1 hcap2 (fun _=>⟨by simp,by rw[hsize];simp⟩) (by simp)
       split at h
       ·-- nil
        cases h
        have ho0:old=[]:=by simpa [srows] using hold.symm
        subst ho0
        have hco0:co=0:=by cases hs;rfl
        have:=grow H hH ⟨0,.refl,rfl⟩ (by simp;omega) rfl
        simpa [Eff.app] using this
       ·-- immutable, full
        cases h
        refine grow H hH ⟨0,.refl,rfl⟩ ?_ rfl
        have:=sim_full hs
        omega
       ·-- a row, full
        cases h
        refine grow H hH ⟨0,.refl,rfl⟩ ?_ rfl
        obtain⟨_,_,_,h1,_,_,_,h2,_⟩:=sb_inv hs
        have:=h2 rfl
        omega
       ·-- a row
        rename_i id i1 n1'
        cases h
        by_cases hroom:old.length+new.length≤co
        ·-- in place
         simp only[srows] at hold
         split at hold
         ·rename_i b hb
          split at hold
          ·rename_i hbc
           have hold':(List.take n1' (List.drop i1 b.rows))=old:=by simpa using hold
           obtain⟨L,ad,rfl,hm1,hL,hc,hz,hf,hm⟩:=sb_inv hs
           obtain⟨z1,z2⟩:=hz (by omega)
           subst z1
           obtain⟨L',hL',hat⟩:=hH.blk id b hb
           rw[hL] at hL';cases hL'
           replace hat:=hat.reg hm
           obtain⟨us,ty',g1,g2,g3⟩:=hat.cell
           have hLE:L.E=D.size:=by rw[hat.E,hbc.1]
           have hfit:L.ro+i1*L.E+old.length*i.size+news.length≤us.size:=by
            rw[n1,hsz,g2]
            have:(i1+(old.length+new.length))*L.E≤(i1+co)*L.E:=Nat.mul_le_mul_right _ (by omega)
            rw[Nat.add_mul,Nat.add_mul,hLE] at this
            rw[hLE] at z2 ⊢
            omega
           have hrun:=run_app_room (P:=P) w t tx ty el el2 i hu0 hu1 hinf L.rb (L.ro+i1*L.E) old.length co us ty' g1 an' new.length cn news (by rw[hsz];exact n1) n2 (n4 c4) hroom hfit
           obtain⟨J',r1,r2,r3⟩:=rel_move hH hb hL g1 _ (kD us (L.ro+i1*L.E+old.length*i.size) news hfit) k i1 (old++new)
            (by
             rw[List.length_append,hbc.1]
             have:(i1+(old.length+new.length))*L.E≤(i1+co)*L.E:=Nat.mul_le_mul_right _ (by omega)
             rw[Nat.add_mul,hLE] at this
             rw[hLE] at z2
             omega)
            (fun q row hq=>by
             rw[hbc.1]
             rcases List.mem_append.1 (List.mem_of_getElem? hq) with hm|hm
             ·exact oE _ hm
             ·exact nE _ hm)
            (fun q row o v hq ho=>by
             have hoE:o<D.size:=by
              have hl:row.length=D.size:=by
               rcases List.mem_append.1 (List.mem_of_getElem? hq) with hm|hm
               ·exact oE _ hm
               ·exact nE _ hm
              rw[←hl];exact(List.getElem?_eq_some_iff.1 ho).1
             rw[zzZ us _ _ hfit,hbc.1,hLE,hsz]
             by_cases hlt:q<old.length
             ·rw[List.getElem?_append_left hlt] at hq
              have:(q+1)*D.size≤old.length*D.size:=Nat.mul_le_mul_right _ hlt
              rw[Nat.add_mul] at this
              rw[if_neg (by omega)]
              have hq':b.rows[i1+q]?=some row:=by
               rw[←hold'] at hq
               rw[List.getElem?_take] at hq
               split at hq
               ·rw[List.getElem?_drop] at hq;exact hq
               ·cases hq
              obtain⟨y,hy,hv⟩:=g3 _ row o v hq' ho
              refine⟨y,?_,hv⟩
              rw[←hy,hbc.1]
              congr 1
              rw[Nat.add_mul];omega
             ·rw[List.getElem?_append_right (by omega)] at hq
              obtain⟨y,hy,hv⟩:=n3 _ row o v hq ho
              refine⟨y,?_,hv⟩
              have hqn:q-old.length<new.length:=(List.getElem?_eq_some_iff.1 hq).1
              have hq2:q*D.size=old.length*D.size+(q-old.length)*D.size:=by
               rw[←Nat.add_mul];congr 1;omega
              have:(q-old.length+1)*D.size≤new.length*D.size:=Nat.mul_le_mul_right _ hqn
              rw[Nat.add_mul] at this
              rw[if_pos (by rw[n1];omega),←hy]
              congr 1
              omega)
           refine⟨_,_,J',hrun,?_,?_,?_⟩
           ·refine VR.sb r1 hroom (fun _=>⟨by simp[hat.E],?_⟩) (by simp)
            simp only[Nat.zero_add]
            rw[←hat.E]
            rw[Nat.add_mul] at z2;omega
           ·rw[hbc.1] at r2;exact r2
           ·rw[hbc.1] at r3;exact r3
          ·cases hold
         ·cases hold
        ·obtain⟨e1,e2⟩:=rel_del hH id
         exact grow (H.del id) e1 ⟨0,e2,rfl⟩ (by omega) rfl
       ·cases h
      ·cases h
    ·cases h
  ·cases h
 ·cases h
def icopy(P:Program)(H:Heap)(t tx:TypeId)(d x:IV):Option (IV×Eff):=
 match tc P t,tc P tx with
 |some C,some CX=>match C.kd,CX.kd with
  | .slice e,.slice _=>match tc P e with
   |none=>none
   |some D=>match srows H D.size x,srows H D.size d with
    |some src,some dst=>
     let n:=min src.length dst.length
     if n=0 then some (.int .i64 0,.none) else
     match d with
     | .sb id i _ _=>match H.get id with
      |some b=>if ∀r∈src,∀v∈r,v.one=true then some (.int .i64 n,.put id ⟨b.E,b.rows.take i++src.take n++b.rows.drop (i+n)⟩) else none
      |none=>none
     |_=>none
    |_,_=>none
  |_,_=>none
 |_,_=>none
theorem run_copy_any{P:Program}(w:World)(dT sT ty elem:TypeId)(i:TypeInfo)(b a:Option Addr)(dLen dCap sLen sCap:Nat)(n:Nat)(cs:Array Value)(w':World)
  (hu:P.underlying dT=some (.slice elem)) (hi:P.info? elem=some i) (hn:Nat.min sLen dLen=n) (hf:(Builtin.firstCells i.size n (.slice a sLen sCap)).run P w= .ok cs w)
  (hst: ∀ad,b=some ad→(storeCells ad cs.toList).run P w= .ok () w') (hb:b=none→w'=w):
  (Builtin.copy_ #[dT,sT] ty #[.slice b dLen dCap,.slice a sLen sCap]).run P w= .ok (goInt n) w':=by
 cases b with
 |none=>
  have:=hb rfl;subst this
  simp[Builtin.copy_,run_underlying hu,Builtin.lenOf,sizeOf,typeInfo,hi,hn,hf]
 |some ad=>simp[Builtin.copy_,run_underlying hu,Builtin.lenOf,sizeOf,typeInfo,hi,hn,hf,hst ad rfl]
theorem copy_sound{P:Program}{H:Heap}{k:Nat}{t tx ty:TypeId}{d x v:IV}{e:Eff}(h:icopy P H t tx d x=some (v,e)){J:Inj}{S:Sure}{w:World}(hH:RelH J S H w){u u':Value}(hd:VR J S d u)(hx:VR J S x u'):
  OutV P (Builtin.copy_ #[t,tx] ty #[u,u']) J S H w v (e.app H k):=by
 unfold icopy at h
 split at h
 ·rename_i C CX hC hCX
  obtain⟨i0,d0,hinf0,hu0,hsz0,hby0,hag0,hzero0,hkd0,hflat0⟩:=zZ hC
  split at h
  ·rename_i el el2 hk hk2
   rw[hk] at hkd0;have:=yK hkd0;subst this
   split at h
   ·cases h
   ·rename_i D hD
    obtain⟨i,dd,hinf,hu,hsz,hby,hag,hzero,hkd,hflat⟩:=zZ hD
    split at h
    ·rename_i src dst hsrc hdst
     obtain⟨nE,an,cn,rfl,hcn,hann,hnr⟩:=kP hH hsrc hx
     obtain⟨oE,ao,co,rfl,hco,haon,hor⟩:=kP hH hdst hd
     simp only at h
     split at h
     ·rename_i h0
      cases h
      refine⟨.int .i64 0,w,J,?_,.int _ _,hH,.refl⟩
      have hf:(Builtin.firstCells i.size 0 (.slice an src.length cn)).run P w= .ok #[] w:=by
       cases an with
       |none=>exact run_firstCells_none w _ _ _ _
       |some a=>exact run_firstCells_some w _ 0 a _ cn [] (by simp) (by simp)
      exact run_copy_any w t tx ty el i ao an _ co _ cn 0 #[] w hu0 hinf h0 hf (fun ad _=>by simp[storeCells]) (fun _=>rfl)
     ·rename_i h0
      split at h
      ·rename_i id i1 n1 full
       split at h
       ·rename_i b hb
        split at h
        ·rename_i hone
         cases h
         simp only[srows,hb] at hdst
         split at hdst
         ·rename_i hbc
          cases hdst
          have hdl:(List.take n1 (List.drop i1 b.rows)).length=n1:=by simp;omega
          rw[hdl] at hd hco h0 ⊢
          obtain⟨an',rfl⟩: ∃a,an=some a:=by
           cases an with
           |none=>have:=hann rfl;omega
           |some a=>exact⟨a,rfl⟩
          have hnE: ∀r∈src.take (min src.length n1),r.length=D.size:=fun r hr=>nE r (List.mem_of_mem_take hr)
          have hnr': ∀(i:Nat) (row:List IV) (o:Nat) (v:IV),(src.take (min src.length n1))[i]?=some row→row[o]?=some v→ ∃y,w.cell? (an'.add (i*D.size+o))=some y∧VR J S v y:=by
           intro q row o v hq ho
           rw[List.getElem?_take] at hq
           split at hq
           ·exact hnr an' rfl q row o v hq ho
           ·cases hq
          obtain⟨news,m1,m2,m3,m4⟩:=zzY hnE hnr'
          have hlen:(src.take (min src.length n1)).length=min src.length n1:=by simp
          rw[hlen] at m1
          cases hd with
          |sb hL hc hz hf hm=>
           rename_i L ad
           obtain⟨z1,z2⟩:=hz (by omega)
           subst z1
           obtain⟨L',hL',hat⟩:=hH.blk id b hb
           rw[hL] at hL';cases hL'
           replace hat:=hat.reg hm
           obtain⟨us,ty',g1,g2,g3⟩:=hat.cell
           have hLE:L.E=D.size:=by rw[hat.E,hbc.1]
           have hfit:L.ro+i1*L.E+news.length≤us.size:=by
            rw[m1,g2,hLE]
            have:(i1+min src.length n1)*L.E≤(i1+co)*L.E:=Nat.mul_le_mul_right _ (by omega)
            rw[Nat.add_mul,hLE] at this
            rw[hLE] at z2
            omega
           have hcells:=run_firstCells_some (P:=P) w i.size (min src.length n1) an' src.length cn news (by rw[hsz];exact m1) m2
           have hst:=run_storeCells_at P L.rb (L.ro+i1*L.E) ty' news 0 us w g1 (by simpa using hfit) (m4 (fun r hr=>hone r (List.mem_of_mem_take hr)))
           simp only[Nat.add_zero] at hst
           have hrun:=run_copy_any (P:=P) w t tx ty el i (some ⟨L.rb,L.ro+i1*L.E,none⟩) (some an') n1 co src.length cn (min src.length n1) news.toArray _ hu0 hinf rfl hcells (fun ad had=>by cases had;exact hst) (fun hne=>by cases hne)
           have hbig:i1+min src.length n1≤b.rows.length:=by omega
           have hget: ∀q,(b.rows.take i1++src.take (min src.length n1)++b.rows.drop (i1+min src.length n1))[q]?=if i1≤q∧q<i1+min src.length n1 then src[q-i1]? else b.rows[q]?:=by
            intro q
            rw[List.append_assoc]
            by_cases h1:q<i1
            ·rw[List.getElem?_append_left (by simp;omega),List.getElem?_take,if_pos h1,if_neg (by omega)]
            ·have e:(List.take i1 b.rows).length=i1:=by simp;omega
             rw[List.getElem?_append_right (by omega),e]
             by_cases h2:q<i1+min src.length n1
             ·rw[List.getElem?_append_left (by omega),if_pos (by omega),List.getElem?_take,if_pos (by omega)]
             ·rw[List.getElem?_append_right (by omega),if_neg (by omega),List.getElem?_drop,hlen]
              congr 1;omega
           obtain⟨r1,r2⟩:=rel_write hH hb hL g1 _ (kD us (L.ro+i1*L.E) news hfit) (b.rows.take i1++src.take (min src.length n1)++b.rows.drop (i1+min src.length n1))
            (by simp only[List.length_append,List.length_take,List.length_drop];omega)
            (fun q row hq=>by
             rw[hget] at hq
             split at hq
             ·rw[hbc.1];exact nE _ (List.mem_of_getElem? hq)
             ·exact hat.row q row hq)
            (fun q row o v hq ho=>by
             rw[zzZ us _ _ hfit,hLE,hbc.1,m1]
             rw[hget] at hq
             split at hq
             ·rename_i hqi
              have hoE:o<D.size:=by rw[←nE _ (List.mem_of_getElem? hq)];exact(List.getElem?_eq_some_iff.1 ho).1
              obtain⟨y,hy,hv⟩:=m3 (q-i1) row o v (by rw[List.getElem?_take,if_pos (by omega)];exact hq) ho
              have e1:q*D.size=i1*D.size+(q-i1)*D.size:=by rw[←Nat.add_mul];congr 1;omega
              have:(q-i1+1)*D.size≤min src.length n1*D.size:=Nat.mul_le_mul_right _ (by omega)
              rw[Nat.add_mul] at this
              rw[if_pos (by omega)]
              refine⟨y,?_,hv⟩
              rw[←hy];congr 1;omega
             ·rename_i hqi
              have hoE:o<D.size:=by rw[←hbc.1,←hat.row q row hq];exact(List.getElem?_eq_some_iff.1 ho).1
              have hno: ¬(L.ro+i1*D.size≤L.ro+q*D.size+o∧L.ro+q*D.size+o<L.ro+i1*D.size+min src.length n1*D.size):=by
               rintro⟨x1,x2⟩
               by_cases hq1:q<i1
               ·have:(q+1)*D.size≤i1*D.size:=Nat.mul_le_mul_right _ hq1
                rw[Nat.add_mul] at this;omega
               ·have:(i1+min src.length n1)*D.size≤q*D.size:=Nat.mul_le_mul_right _ (by omega)
                rw[Nat.add_mul] at this;omega
              rw[if_neg hno]
              obtain⟨y,hy,hv⟩:=g3 q row o v hq ho
              rw[hbc.1] at hy
              exact⟨y,hy,hv⟩)
           exact⟨_,_,J,hrun,.int _ _,r1,r2⟩
         ·cases hdst
        ·cases h
       ·cases h
      ·cases h
    ·cases h
  ·cases h
 ·cases h
end Go.Proofs.Ytoojnagdenoknaa.IL
