/- The layer of owned parts, part 6: sorting, out of the library's contract. Nothing here speaks of a given program. -/
import Derived.Test.YtoojnagdenoknaaQS
import Derived.Test.YtoojnagdenoknaaPM
import Derived.Sort.Grow
import Derived.Sort.EncStr
import Derived.Lib.RowBridge
set_option linter.unusedSectionVars false
set_option linter.unnecessarySimpa false
set_option linter.unusedVariables false
set_option linter.unusedSimpArgs false
namespace Go.Proofs.Ytoojnagdenoknaa.IL
open Go Go.RowKit PL Go.Sort
theorem encCells_get{β:Type} [Inhabited β] (enc:β→Value)(d:Array β)(off:Nat)(c:Array Value)(k:Nat):(putCells enc off d c)[k]?=(c[k]?).map fun x=>if off≤k∧k<off+d.size then enc d[k-off]! else x:=by
 unfold putCells
 rw[Array.getElem?_mapIdx]
theorem row_callS{P:Program}{f:FuncId}{α β:Type} [Inhabited β] {e:α→List IV}{iv:α→IV}{b:α→β}{a:β→α}{enc:β→Value}(he: ∀x,e x=[iv x])
  (v1: ∀J S x u,VR J S (iv x) u→u=enc (b x)) (v2: ∀J S y,VR J S (iv (a y)) (enc y)) (g:List β→List β) (hg: ∀l,(g l).length=l.length) (m:List β→Nat) (hml: ∀l,m l≤l.length) (k:Bool) (hk:k=false→ ∀l,m l=l.length)
  (hs: ∀(blk off cap:Nat) (zs:List β) (w:World),Holds enc w blk off zs.toArray→blk<w.heap.size→zs.length≤4294967296→zs.length≤cap→Calls P f #[.slice (some ⟨blk,off,none⟩) zs.length cap] w fun e w'=>
   e= .returned (if k=true then .slice (some ⟨blk,off,none⟩) (m zs) cap else .tuple #[])∧ ∃n os,w'=grow (putRow enc (Sort.ahead w n) blk off (g zs).toArray) os)
  (hn: ∀(p:Option Addr) (cap:Nat) (w:World),Calls P f #[.slice p 0 cap] w fun e w'=>e= .returned (if k=true then .slice p 0 cap else .tuple #[])∧w'=w)
  (hc:Callable P f) {l:List α} (hl:l.length≤4294967296) {hm: ∀x,(e x).length=1} {hcl: ∀x,Cl1 (e x)} {v:IV}:
  CallS P f [v] [sl (Ri e 1 hm hcl) v l] (fun rv L=> ∃r,rv=(if k=true then r else .tup []:IV)∧(k=false→r=v)∧L=[sl (Ri e 1 hm hcl) r (((g (l.map b)).take (m (l.map b))).map a)]):=by
 intro F H hhs
 refine⟨hc,fun J S w us _ hH ha=>?_⟩
 obtain⟨u,rfl,hu⟩:=ha.one
 have hlen:(g (l.map b)).length=l.length:=by rw[hg];simp
 have hmm:m (l.map b)≤l.length:=by have:=hml (l.map b);simpa using this
 have hkm:k=false→m (l.map b)=l.length:=fun h=>by have:=hk h (l.map b);simpa using this
 have none_case: ∀(p:Option Addr) (c:Nat),u= .slice p 0 c→l=[]→Calls P f #[u] w fun e' w'=> ∃J' S' u' rv H',e'= .returned u'∧(∃L',(∃r,rv=(if k=true then r else .tup []:IV)∧(k=false→r=v)∧L'=[sl (Ri e 1 hm hcl) r (((g (l.map b)).take (m (l.map b))).map a)])∧HS F L' H')∧VR J' S' rv u'∧RelH J' S' H' w'∧Ext J S H w J' S' H' w':=by
  intro p c e' hl0
  subst e'
  subst hl0
  have hd0:g ([].map b)=[]:=List.length_eq_zero_iff.1 (by simpa using hlen)
  refine(hn p c w).mono ?_
  rintro e' w' ⟨rfl,rfl⟩
  refine⟨J,S,_,if k=true then v else .tup [],H,rfl,⟨_,⟨v,rfl,fun _=>rfl,rfl⟩,by rw[hd0,List.take_nil,List.map_nil];exact hhs⟩,?_,hH,.refl⟩
  cases k with
  |true=>exact hu
  |false=>exact .tup rfl (by simp)
 obtain⟨pp,qq,jj,aa,kk,_⟩:=hhs.out 0 rfl
 rcases sl_i.1 aa with ⟨rfl,e',_⟩|⟨id,full,pre,post,rfl,aa2⟩
 ·have hu':=hu
  cases hu'
  exact none_case none 0 rfl e'
 ·have h3:H.get id=some ⟨1,pre++l.map e++post⟩:=zzb aa2 jj
  generalize hd:g (l.map b)=d at*
  generalize hmd:m (l.map b)=mm at*
  generalize hbb:(⟨1,pre++l.map e++post⟩:Blk)=bl at h3
  generalize hii:pre.length=i at*
  have h4:bl.E=1:=by rw[←hbb]
  have h5:i+l.length≤bl.rows.length:=by rw[←hbb,←hii];simp
  have h6:(bl.rows.drop i).take l.length=l.map e:=by rw[←hbb,←hii];simp
  have hu':=hu
  cases hu' with
  |sb hJ hcl2 hz hf hmp=>
   rename_i L c ad
   by_cases hl0:l.length=0
   ·have:l=[]:=List.length_eq_zero_iff.1 hl0
    exact none_case (some ad) c (by rw[hl0]) this
   ·obtain⟨z1,z2⟩:=hz (by omega)
    obtain⟨L',hL',hat⟩:=hH.blk id bl h3
    rw[hJ] at hL';cases hL'
    replace hat:=hat.reg hmp
    obtain⟨cs,t,g1,g2,g3⟩:=hat.cell
    have hE:L.E=1:=by rw[hat.E,h4]
    have hbE:bl.E=1:=h4
    have hrow: ∀(j:Nat) (hj:j<l.length),bl.rows[i+j]?=some [iv l[j]]:=by
     intro j hj
     have:(l.map e)[j]?=some [iv l[j]]:=by simp[hj,he]
     rw[←h6,List.getElem?_take,if_pos hj,List.getElem?_drop] at this
     exact this
    have hcell: ∀(j:Nat) (hj:j<l.length),cs[L.ro+i+j]?=some (enc (b l[j])):=by
     intro j hj
     obtain⟨u,hu,hv⟩:=g3 (i+j) _ 0 _ (hrow j hj) rfl
     rw[hbE] at hu
     rw[←v1 _ _ _ _ hv,←hu];congr 1;omega
    have hrb:L.rb<w.heap.size:=kG g1
    have hH0:Holds enc w L.rb (L.ro+i) (l.map b).toArray:=by
     intro j hj
     have hj':j<l.length:=by simpa using hj
     refine⟨?_,by simp[World.frozen?,g1]⟩
     rw[zzP g1,hcell j hj']
     simp[hj']
    subst z1
    rw[hE,Nat.mul_one]
    have:=hs L.rb (L.ro+i) c (l.map b) w hH0 hrb (by simpa using hl) (by simpa using hcl2)
    rw[List.length_map] at this
    refine this.mono ?_
    rw[hd,hmd]
    rintro e' w' ⟨rfl,n,os,rfl⟩
    have hheap: ∀q,q<w.heap.size→q≠L.rb→(grow (putRow enc (Sort.ahead w n) L.rb (L.ro+i) d.toArray) os).heap[q]?=w.heap[q]?:=by
     intro q hq hne
     rw[heap_grow_old _ _ (by simpa using hq)]
     simp[putRow,mapBlock,Sort.ahead,Array.getElem?_modify,Ne.symm hne]
    have hhb:(grow (putRow enc (Sort.ahead w n) L.rb (L.ro+i) d.toArray) os).heap[L.rb]?=some (.cells (putCells enc (L.ro+i) d.toArray cs) t (0,0)):=by
     rw[heap_grow_old _ _ (by simpa using hrb)]
     simp[putRow,mapBlock,Sort.ahead,Array.getElem?_modify,g1,onCells]
    have hsz:(putCells enc (L.ro+i) d.toArray cs).size=cs.size:=by simp[putCells]
    have hnew: ∀(j:Nat) (hj:j<d.length),(bl.rows.take i++d.map (fun y=>e (a y))++bl.rows.drop (i+d.length))[i+j]?=some (e (a d[j])):=by
     intro j hj
     rw[List.append_assoc,List.getElem?_append_right (by simp;omega),List.getElem?_append_left (by simp;omega)]
     simp only[List.length_take]
     rw[show i+j-min i bl.rows.length=j by omega]
     simp[hj]
    have hold: ∀(q:Nat),¬(i≤q∧q<i+d.length)→(bl.rows.take i++d.map (fun y=>e (a y))++bl.rows.drop (i+d.length))[q]?=bl.rows[q]?:=by
     intro q hq
     have hib:i≤bl.rows.length:=by omega
     by_cases h:q<i
     ·rw[List.append_assoc,List.getElem?_append_left (by simp;omega),List.getElem?_take,if_pos h]
     ·rw[List.getElem?_append_right (by simp;omega),List.getElem?_drop]
      congr 1
      simp only[List.length_append,List.length_take,List.length_map]
      omega
    have hrl:(bl.rows.take i++d.map (fun y=>e (a y))++bl.rows.drop (i+d.length)).length=bl.rows.length:=by simp;omega
    have hrel:RelH J S (H.put id ⟨bl.E,bl.rows.take i++d.map (fun y=>e (a y))++bl.rows.drop (i+d.length)⟩) (grow (putRow enc (Sort.ahead w n) L.rb (L.ro+i) d.toArray) os):=by
     refine⟨fun id' b' hb'=>?_,fun id1 id2 L1 L2 hb1 hb2 hL1 hL2 hr=>?_,fun a x hx=>?_,fun id' L' hL'=>?_,fun id' s' hs'=>?_⟩
     ·simp only[ke] at hb'
      split at hb'
      ·rename_i e'
       subst e'
       cases hb'
       refine⟨L,hJ,.of ⟨hat.E,⟨_,t,hhb,by rw[hsz];exact g2,fun q row o x hq ho=>?_⟩,fun q row hq=>?_,by simp only[hrl];exact hat.fit⟩ hmp⟩
       ·by_cases hin:i≤q∧q<i+d.length
        ·have e':=hnew (q-i) (by omega)
         rw[show i+(q-i)=q by omega] at e'
         simp only at hq
         rw[e',he] at hq
         cases hq
         cases o with
         |zero=>
          simp at ho
          subst ho
          refine⟨enc d[q-i],?_,v2 _ _ _⟩
          rw[encCells_get,hbE]
          have hb:L.ro+q*1+0<cs.size:=by
           have:=hat.fit
           rw[hbE] at this
           omega
          rw[Array.getElem?_eq_getElem hb,Option.map_some,if_pos (by simp;omega)]
          congr 2
          rw[show L.ro+q*1+0-(L.ro+i)=q-i by omega]
          have:q-i<d.length:=by omega
          simp[this]
         |succ o=>simp at ho
        ·simp only at hq
         rw[hold q hin] at hq
         obtain⟨u,hu,hv⟩:=g3 q row o x hq ho
         refine⟨u,?_,hv⟩
         have hro:row.length=1:=by rw[hat.row q row hq,hbE]
         have ho1:o<row.length:=(List.getElem?_eq_some_iff.1 ho).1
         rw[encCells_get,hu,Option.map_some,if_neg]
         rw[hbE]
         simp only[List.size_toArray]
         omega
       ·by_cases hin:i≤q∧q<i+d.length
        ·have e':=hnew (q-i) (by omega)
         rw[show i+(q-i)=q by omega] at e'
         simp only at hq
         rw[e'] at hq
         cases hq
         simp[hbE,hm]
        ·simp only at hq
         rw[hold q hin] at hq
         exact hat.row q row hq
      ·rename_i hne
       obtain⟨L2,hL2,hat2⟩:=hH.blk id' b' hb'
       have hne2:L2.rb≠L.rb:=fun e'=>hne (hH.inj id' id L2 L (.inl ⟨b',hb'⟩) (.inl ⟨bl,h3⟩) hL2 hJ e')
       obtain⟨_,q1,_⟩:=hat2.any
       exact⟨L2,hL2,hat2.heap (hheap _ (kG q1) hne2)⟩
     ·exact hH.inj id1 id2 L1 L2 ((yM h3 id1).1 hb1) ((yM h3 id2).1 hb2) hL1 hL2 hr
     ·obtain⟨s1,s2⟩:=hH.sure a x hx
      have hne:a.blk≠L.rb:=fun e'=>s2 ⟨id,L,.inl ⟨bl,h3⟩,hJ,e'.symm⟩
      refine⟨by rw[yT (hheap _ (kno_lt s1) hne)];exact s1,?_⟩
      rintro⟨id',L',hb',hL',hr⟩
      exact s2 ⟨id',L',(yM h3 id').1 hb',hL',hr⟩
     ·simpa using hH.next id' L' hL'
     ·obtain⟨M,hM,hat2⟩:=hH.lps id' s' hs'
      exact⟨M,hM,hat2.heap (hheap _ (hH.hlt (.inr ⟨s',hs'⟩) hM) (hH.apart h3 hJ hs' hM))⟩
    refine⟨J,S,_,if k=true then .sb id i mm false else .tup [],_,rfl,⟨_,⟨if k=true then .sb id i mm false else .sb id i l.length full,by cases k<;>rfl,fun h=>by simp[h],rfl⟩,kk _ _ _ ?_ (join_put aa2 jj (b':=⟨bl.E,bl.rows.take i++d.map (fun y=>e (a y))++bl.rows.drop (i+d.length)⟩)) (hhs.1.put h3)⟩,?_,hrel,?_⟩
    ·refine sl_i.2 (.inr ⟨id,if k=true then false else full,pre,(d.drop mm).map (fun y=>e (a y))++post,?_,fun q=>?_⟩)
     ·rw[hii]
      cases k with
      |true=>simp only[if_true,List.length_map,List.length_take];rw[show min mm d.length=mm by omega]
      |false=>have:=hkm rfl;simp only[List.length_map,List.length_take];rw[show min mm d.length=l.length by omega];rfl
     ·rw[←hbb,←hii]
      have e1:(pre++l.map e++post).take pre.length=pre:=by rw[List.append_assoc,List.take_left]
      have e2:(pre++l.map e++post).drop (pre.length+d.length)=post:=by rw[hlen,List.append_assoc,←List.drop_drop,List.drop_left,show l.length=(l.map e).length by simp,List.drop_left]
      have e3:pre++((d.take mm).map a).map e++((d.drop mm).map (fun y=>e (a y))++post)=pre++d.map (fun y=>e (a y))++post:=by
       rw[List.map_map,←List.append_assoc,List.append_assoc pre,show(e∘a)=fun y=>e (a y) from rfl,←List.map_append,List.take_append_drop]
      simp only[e1,e2,e3]
    ·cases k with
     |true=>exact .sb hJ (Nat.le_trans hmm hcl2) (fun _=>by rw[hE,Nat.mul_one];exact⟨rfl,by rw[hE] at z2;exact z2⟩) (fun h=>by cases h)
     |false=>exact .tup rfl (by simp)
    ·refine⟨fun _ _ h=>h,fun _ _ h=>h,fun _ _ h=> .inl h,?_,fun q hq hno=>hheap q hq (fun e'=>hno ⟨id,L,.inl ⟨bl,h3⟩,hJ,e'.symm⟩),by simp,rfl,rfl,rfl,fun _=>Nat.le_refl _,fun q r hq=>⟨r,(hheap q (kG hq) (fun e'=>by rw[e',g1] at hq;cases hq)).trans hq⟩⟩
     rintro x ⟨id',L',hb',hL',hr⟩
     exact .inl ⟨id',L',(yM h3 id').1 hb',hL',hr⟩
theorem sort_callS{P:Program}{f:FuncId}
  (hs: ∀(blk off cap:Nat) (zs:List Int) (w:World),Holds (Value.int .i64) w blk off zs.toArray→blk<w.heap.size→zs.length<4611686018427387904→Calls P f #[.slice (some ⟨blk,off,none⟩) zs.length cap] w fun e w'=>
   e= .returned (.tuple #[])∧ ∃n os,w'=grow (putRow (Value.int .i64) (Sort.ahead w n) blk off (zs.mergeSort fun x y=>decide (x≤y)).toArray) os)
  (hn: ∀(p:Option Addr) (cap:Nat) (w:World),Calls P f #[.slice p 0 cap] w fun e w'=>e= .returned (.tuple #[])∧w'=w)
  (hc:Callable P f) {l:List Int} (hl:l.length≤4294967296) {hm: ∀x,(eInt x).length=1} {hcl: ∀x,Cl1 (eInt x)} {v:IV}:
  CallS P f [v] [sl (Ri eInt 1 hm hcl) v l] (fun rv L=>rv=(.tup []:IV)∧L=[sl (Ri eInt 1 hm hcl) v (l.mergeSort fun x y=>decide (x≤y))]):=by
 refine(row_callS (iv:=fun n=> .int .i64 n) (b:=id) (a:=id) (enc:=Value.int .i64) (fun _=>rfl) (fun _ _ _ _ h=>by cases h;rfl) (fun _ _ _=> .int _ _) (fun zs=>zs.mergeSort fun x y=>decide (x≤y)) List.length_mergeSort List.length (fun _=>Nat.le_refl _) false (fun _ _=>rfl)
  (fun blk off cap zs w h1 h2 h3 _=>hs blk off cap zs w h1 h2 (by omega)) hn hc hl).mono ?_
 rintro rv L ⟨r,h1,h2,h3⟩
 refine⟨h1,?_⟩
 rw[h3,h2 rfl,List.map_id,List.map_id,List.take_of_length_le (Nat.le_of_eq (List.length_mergeSort _))]
 rfl
end Go.Proofs.Ytoojnagdenoknaa.IL
