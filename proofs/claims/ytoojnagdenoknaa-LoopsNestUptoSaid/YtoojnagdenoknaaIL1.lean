/- The ideal logic, part 1: what loads, stores, new blocks and appends do to a related world. Nothing here speaks of a given program. -/
import Derived.Test.YtoojnagdenoknaaIL0
import Derived.Laws.CopyRow
import Derived.Laws.MakeOwn
set_option linter.unusedSectionVars false
set_option linter.unnecessarySimpa false
set_option linter.unusedVariables false
set_option linter.unusedSimpArgs false
namespace Go.Proofs.Ytoojnagdenoknaa.IL
open Go Go.RowKit
theorem yO(b o n:Nat):(⟨b,o,none⟩:Addr).add n=⟨b,o+n,none⟩:=by
 unfold Addr.add;split
 ·simp_all
 ·rfl
theorem zzP{w:World}{g:Nat}{cs:Array Value}{t:TypeId}{fr:Nat×Nat}(h:w.heap[g]?=some (.cells cs t fr))(o:Nat):w.cell? ⟨g,o,none⟩=cs[o]?:=by
 simp[World.cell?,h]
theorem RegAt.heap{J:Inj}{S:Sure}{w w':World}{L:Loc}{b:Blk}(h:RegAt J S w L b)(e:w'.heap[L.rb]?=w.heap[L.rb]?):RegAt J S w' L b:=by
 refine⟨h.E,?_,h.row,h.fit⟩
 rw[e];exact h.cell
theorem BlkAt.heap{J:Inj}{S:Sure}{w w':World}{L:Loc}{b:Blk}(h:BlkAt J S w L b)(e:w'.heap[L.rb]?=w.heap[L.rb]?):BlkAt J S w' L b:=by
 refine⟨fun r=>(h.reg r).heap e,fun r=>⟨?_⟩⟩
 rw[e];exact(h.mp r).obj
theorem RegAt.mono{J J':Inj}{S S':Sure}{w:World}{L:Loc}{b:Blk}(h:RegAt J S w L b)(hJ: ∀id L,J id=some L→J' id=some L)(hS: ∀a v,S a v→S' a v):RegAt J' S' w L b:=by
 refine⟨h.E,?_,h.row,h.fit⟩
 obtain⟨cs,t,h1,h2,h3⟩:=h.cell
 refine⟨cs,t,h1,h2,fun i row o v hi ho=>?_⟩
 obtain⟨u,hu,hv⟩:=h3 i row o v hi ho
 exact⟨u,hu,hv.mono hJ hS⟩
theorem BlkAt.mono{J J':Inj}{S S':Sure}{w:World}{L:Loc}{b:Blk}(h:BlkAt J S w L b)(hJ: ∀id L,J id=some L→J' id=some L)(hS: ∀a v,S a v→S' a v):BlkAt J' S' w L b:=by
 refine⟨fun r=>(h.reg r).mono hJ hS,fun r=>⟨?_⟩⟩
 obtain⟨es,c,h1,h2,h3,h4⟩:=(h.mp r).obj
 refine⟨es,c,h1,h2,h3,fun i x hx=>?_⟩
 obtain⟨hb,k,v,hr,hk,hv⟩:=h4 i x hx
 exact⟨hb,k,v,hr,hk.mono hJ hS,hv.mono hJ hS⟩
theorem BlkAt.of{J:Inj}{S:Sure}{w:World}{L:Loc}{b:Blk}(h:RegAt J S w L b)(r:L.mp=false:=by first|rfl|assumption):BlkAt J S w L b:=⟨fun _=>h,fun q=>by rw[r] at q;cases q⟩
theorem MapAt.sub{J J':Inj}{S S':Sure}{w:World}{L:Loc}{b b':Blk}(h:MapAt J S w L b)(hlen:b'.rows.length=b.rows.length)
  (hrow: ∀(i:Nat) r r',b.rows[i]?=some r→b'.rows[i]?=some r'→r'.length=r.length∧ ∀(o:Nat) v v' u,r[o]?=some v→r'[o]?=some v'→VR J S v u→VR J' S' v' u):MapAt J' S' w L b':=by
 obtain⟨es,c,m1,m2,m3,m4⟩:=h.obj
 refine⟨⟨es,c,m1,by rw[m2,hlen],m3,fun i x hx=>?_⟩⟩
 obtain⟨hbo,k,v,hr,hk,hv⟩:=m4 i x hx
 have hlt:i<b'.rows.length:=by rw[hlen];exact(List.getElem?_eq_some_iff.1 hr).1
 obtain⟨e1,e2⟩:=hrow i [k,v] b'.rows[i] hr (by simp[hlt])
 have hl2:b'.rows[i].length=2:=e1
 refine⟨hbo,b'.rows[i][0],b'.rows[i][1],?_,e2 0 k _ _ rfl (by simp[hl2]) hk,e2 1 v _ _ rfl (by simp[hl2]) hv⟩
 rw[List.getElem?_eq_getElem hlt]
 congr 1
 apply List.ext_getElem
 ·exact hl2
 ·intro q q1 q2
  have:q=0∨q=1:=by simp at q2;omega
  rcases this with rfl|rfl<;>rfl
theorem BlkAt.any{J:Inj}{S:Sure}{w:World}{L:Loc}{b:Blk}(h:BlkAt J S w L b): ∃o,w.heap[L.rb]?=some o∧((L.mp=false∧ ∃cs t f,o= .cells cs t f)∨(L.mp=true∧ ∃es c,o= .map es c)):=by
 cases r:L.mp with
 |false=>
  obtain⟨cs,t,h1,_⟩:=(h.reg r).cell
  exact⟨_,h1,.inl ⟨rfl,cs,t,_,rfl⟩⟩
 |true=>
  obtain⟨es,c,h1,_⟩:=(h.mp r).obj
  exact⟨_,h1,.inr ⟨rfl,es,c,rfl⟩⟩
theorem BlkAt.cells{J:Inj}{S:Sure}{w:World}{L:Loc}{b:Blk}(h:BlkAt J S w L b){cs:Array Value}{t:TypeId}{f:Nat×Nat}(hg:w.heap[L.rb]?=some (.cells cs t f)):L.mp=false∧RegAt J S w L b:=by
 obtain⟨o,h1,⟨r,_⟩|⟨_,es,c,rfl⟩⟩:=h.any
 ·exact⟨r,h.reg r⟩
 ·rw[hg] at h1;cases h1
theorem kG{w:World}{k:Nat}{o:Obj}(h:w.heap[k]?=some o):k<w.heap.size:=by
 rcases Nat.lt_or_ge k w.heap.size with hk|hk
 ·exact hk
 ·simp[Array.getElem?_eq_none hk] at h
theorem RelH.lt{J:Inj}{S:Sure}{H:Heap}{w:World}(h:RelH J S H w){id:Id}{b:Blk}{L:Loc}(hb:H.get id=some b)(hJ:J id=some L):L.rb<w.heap.size:=by
 obtain⟨L',hL,hat⟩:=h.blk id b hb
 rw[hJ] at hL;cases hL
 obtain⟨o,h1,_⟩:=hat.any
 exact kG h1
theorem RelH.reg{J:Inj}{S:Sure}{H:Heap}{w:World}(h:RelH J S H w){id:Id}{b:Blk}{L:Loc}(hb:H.get id=some b)(hJ:J id=some L)(r:L.mp=false):RegAt J S w L b:=by
 obtain⟨L',hL,hat⟩:=h.blk id b hb
 rw[hJ] at hL;cases hL
 exact hat.reg r
theorem LoopAt.heap{J:Inj}{S:Sure}{w w':World}{L:Loc}{s:LS}(h:LoopAt J S w L s)(e:w'.heap[L.rb]?=w.heap[L.rb]?):LoopAt J S w' L s:=by
 obtain⟨r,h⟩:=h.rec_
 exact⟨r,by rw[e];exact h⟩
theorem LoopAt.mono{J J':Inj}{S S':Sure}{w:World}{L:Loc}{s:LS}(h:LoopAt J S w L s)(hJ: ∀id L,J id=some L→J' id=some L)(hS: ∀a v,S a v→S' a v):LoopAt J' S' w L s:=by
 obtain⟨r,h1,h2,h3,h4,h5,h6⟩:=h.rec_
 exact⟨r,h1,h2,h3,h4,h5.mono hJ hS,h6⟩
theorem RelH.hlt{J:Inj}{S:Sure}{H:Heap}{w:World}(h:RelH J S H w){id:Id}{L:Loc}(hb:H.has id)(hJ:J id=some L):L.rb<w.heap.size:=by
 rcases hb with ⟨b,hb⟩|⟨s,hs⟩
 ·exact h.lt hb hJ
 ·obtain⟨L',hL,hat⟩:=h.lps id s hs
  rw[hJ] at hL;cases hL
  obtain⟨r,h1,_⟩:=hat.rec_
  exact kG h1
theorem RelH.apart{J:Inj}{S:Sure}{H:Heap}{w:World}(h:RelH J S H w){id i2:Id}{b:Blk}{s:LS}{L M:Loc}(hb:H.get id=some b)(hJ:J id=some L)(hs:H.loop i2=some s)(hM:J i2=some M):M.rb≠L.rb:=by
 intro e
 obtain⟨L',hL,hat⟩:=h.blk id b hb
 rw[hJ] at hL;cases hL
 obtain⟨M',hM',hat2⟩:=h.lps i2 s hs
 rw[hM] at hM';cases hM'
 obtain⟨o,h1,ho⟩:=hat.any
 obtain⟨r,h2,_⟩:=hat2.rec_
 rw[e,h1] at h2
 rcases ho with ⟨_,_,_,_,rfl⟩|⟨_,_,_,rfl⟩<;>cases h2
theorem yM{H:Heap}{id:Id}{b b':Blk}(hb:H.get id=some b')(i:Id):(H.put id b).has i↔H.has i:=by
 unfold Heap.has Heap.put
 by_cases e:i=id
 ·subst e;simp[hb]
 ·simp[e]
theorem yf{H:Heap}{k:Nat}{b:Blk}{i:Id}:(H.new k b).has i→i=H.fresh k∨H.has i:=by
 unfold Heap.has Heap.new
 by_cases e:i=H.fresh k
 ·exact fun _=> .inl e
 ·simp only[e,if_false];exact fun h=> .inr h
theorem has_del{H:Heap}{id i:Id}:(H.del id).has i→H.has i:=by
 unfold Heap.has Heap.del
 rintro(⟨b,h⟩|h)
 ·simp only at h
  split at h
  ·cases h
  ·exact .inl ⟨b,h⟩
 ·exact .inr h
theorem RelH.same{J:Inj}{S:Sure}{H:Heap}{w w':World}(h:RelH J S H w)(e:w'.heap=w.heap):RelH J S H w':=by
 refine⟨fun id b hb=>?_,h.inj,fun a v hs=>?_,h.next,fun id s hs=>?_⟩
 ·obtain⟨L,hL,hat⟩:=h.blk id b hb
  exact⟨L,hL,hat.heap (by rw[e])⟩
 ·obtain⟨h1,h2⟩:=h.sure a v hs
  exact⟨by rw[yT (w:=w) (w':=w') (by rw[e])];exact h1,h2⟩
 ·obtain⟨L,hL,hat⟩:=h.lps id s hs
  exact⟨L,hL,hat.heap (by rw[e])⟩
theorem Ext.same{J:Inj}{S:Sure}{H:Heap}{w w':World}(e:w'.heap=w.heap)(h1:w'.os=w.os)(h2:w'.tape=w.tape)(h3:w'.output=w.output):Ext J S H w J S H w':=
 ⟨fun _ _ h=>h,fun _ _ h=>h,fun _ _ h=> .inl h,fun _ h=> .inl h,fun _ _ _=>by rw[e],by rw[e];exact Nat.le_refl _,h1,h2,h3,fun _=>Nat.le_refl _,fun _ r h=>⟨r,by rw[e];exact h⟩⟩
def rowOf(H:Heap):IV→Option (List IV×Nat)
 | .pb id i o=>(H.get id).bind fun b=>(b.rows[i]?).map fun r=>(r,o)
 | .pim rows i o=>(rows[i]?).map fun r=>(r,o)
 |_=>none
theorem row_read{J:Inj}{S:Sure}{H:Heap}{w:World}(hH:RelH J S H w){p:IV}{u:Value}(hv:VR J S p u){row:List IV}{o:Nat}(hr:rowOf H p=some (row,o)):
  ∃ad,u= .pointer (some ad)∧ ∀k v,row[o+k]?=some v→ ∃x,w.cell? (ad.add k)=some x∧VR J S v x:=by
 cases hv with
 |pb h hm=>
  rename_i id L i o'
  simp only[rowOf,Option.bind_eq_some_iff,Option.map_eq_some_iff] at hr
  obtain⟨b,hb,r,hi,he⟩:=hr
  cases he
  have hat:=hH.reg hb h hm
  obtain⟨cs,t,h1,h2,h3⟩:=hat.cell
  refine⟨_,rfl,fun k v hk=>?_⟩
  obtain⟨x,hx,hvx⟩:=h3 i _ _ v hi hk
  refine⟨x,?_,hvx⟩
  rw[yO,zzP h1,hat.E]
  rw[←hx];congr 1;omega
 |pim hE hS hV=>
  rename_i rows i o' E base f
  simp only[rowOf,Option.map_eq_some_iff] at hr
  obtain⟨r,hi,he⟩:=hr
  cases he
  refine⟨_,rfl,fun k v hk=>⟨f i (o+k),?_,hV i _ _ v hi hk⟩⟩
  rw[zzQ,show i*E+o+k=i*E+(o+k) by omega]
  exact(hH.sure _ _ (hS i _ _ v hi hk)).1
 |_=>simp[rowOf] at hr
def IV.one:IV→Bool
 | .junk| .real _| .agg _| .tup _=>false
 |_=>true
def IV.cells:IV→Option (List IV)
 | .junk| .real _| .tup _=>none
 | .agg cs=>some cs
 |v=>some [v]
theorem VR.one{J:Inj}{S:Sure}{v:IV}{u:Value}(h:VR J S v u)(h1:v.one=true):u.oneCell'=true:=by
 cases h<;>first|rfl|simp[IV.one] at h1
theorem VR.cells{J:Inj}{S:Sure}{v:IV}{u:Value}(h:VR J S v u){cs:List IV}(hc:v.cells=some cs):
  cs.length=u.cells.size∧ ∀(k:Nat) (x:IV) (y:Value),cs[k]?=some x→u.cells[k]?=some y→VR J S x y:=by
 cases h with
 |agg h hV=>simp only[IV.cells,Option.some.injEq] at hc;subst hc;exact⟨h,hV⟩
 |junk=>simp[IV.cells] at hc
 |real=>simp[IV.cells] at hc
 |tup=>simp[IV.cells] at hc
 |_=>
  simp only[IV.cells,Option.some.injEq] at hc
  subst hc
  refine⟨rfl,fun k x y hx hy=>?_⟩
  cases k with
  |zero=>simp[Value.cells] at hx hy;subst hx;subst hy;constructor<;>assumption
  |succ k=>simp at hx
theorem rel_write{J:Inj}{S:Sure}{H:Heap}{w:World}(hH:RelH J S H w){id:Id}{b:Blk}{L:Loc}(hb:H.get id=some b)(hJ:J id=some L){cs:Array Value}{t:TypeId}
  (hg:w.heap[L.rb]?=some (.cells cs t (0,0))) (cs':Array Value) (hsz:cs'.size=cs.size) (rows':List (List IV)) (hlen:rows'.length=b.rows.length)
  (hrow: ∀(i:Nat) (row:List IV),rows'[i]?=some row→row.length=b.E)
  (hcell: ∀(i:Nat) (row:List IV) (o:Nat) (v:IV),rows'[i]?=some row→row[o]?=some v→ ∃u,cs'[L.ro+i*b.E+o]?=some u∧VR J S v u):
  RelH J S (H.put id ⟨b.E,rows'⟩) (w.setRow L.rb cs')∧Ext J S H w J S (H.put id ⟨b.E,rows'⟩) (w.setRow L.rb cs'):=by
 obtain⟨L0,hL0,hat0⟩:=hH.blk id b hb
 rw[hJ] at hL0;cases hL0
 obtain⟨hmp,hat⟩:=hat0.cells hg
 have hown: ∀k,Owns J (H.put id ⟨b.E,rows'⟩) k↔Owns J H k:=by
  intro k
  constructor
  ·rintro⟨i,M,hB,hM,hk⟩
   exact⟨i,M,(yM hb i).1 hB,hM,hk⟩
  ·rintro⟨i,M,hB,hM,hk⟩
   exact⟨i,M,(yM hb i).2 hB,hM,hk⟩
 constructor
 ·refine⟨fun i B hB=>?_,fun i i' M M' hB hB' hM hM' hr=>?_,fun a v hs=>?_,hH.next,fun i s hs=>?_⟩
  ·by_cases e:i=id
   ·subst e
    simp only[Heap.put,if_true,Option.some.injEq] at hB
    subst hB
    obtain⟨c0,t0,h1,h2,h3⟩:=hat.cell
    rw[hg] at h1;cases h1
    exact⟨L,hJ,.of ⟨hat.E,⟨cs',t,setRow_heap w L.rb cs cs' t _ hg,by rw[hsz,h2],hcell⟩,hrow,by simpa [hlen] using hat.fit⟩ hmp⟩
   ·simp only[Heap.put,if_neg e] at hB
    obtain⟨M,hM,hatM⟩:=hH.blk i B hB
    refine⟨M,hM,hatM.heap (setRow_other w L.rb M.rb cs' ?_)⟩
    intro hr
    exact e (hH.inj i id M L (.inl ⟨B,hB⟩) (.inl ⟨b,hb⟩) hM hJ hr)
  ·exact hH.inj i i' M M' ((yM hb i).1 hB) ((yM hb i').1 hB') hM hM' hr
  ·obtain⟨h1,h2⟩:=hH.sure a v hs
   refine⟨?_,fun ho=>h2 ((hown _).1 ho)⟩
   rw[yT (setRow_other w L.rb a.blk cs' (fun e=>h2 ⟨id,L,.inl ⟨b,hb⟩,hJ,e.symm⟩))]
   exact h1
  ·obtain⟨M,hM,hat2⟩:=hH.lps i s hs
   exact⟨M,hM,hat2.heap (setRow_other w L.rb M.rb cs' (hH.apart hb hJ hs hM))⟩
 ·refine⟨fun _ _ h=>h,fun _ _ h=>h,fun _ _ h=> .inl h,fun k hk=> .inl ((hown k).1 hk),fun k hk ho=>setRow_other w L.rb k cs' (fun e=>ho ⟨id,L,.inl ⟨b,hb⟩,hJ,e.symm⟩),by simp,rfl,rfl,rfl,fun _=>Nat.le_refl _,fun k r h=>⟨r,(setRow_other w L.rb k cs' (fun e=>by rw[←e,h] at hg;cases hg)).trans h⟩⟩
theorem rel_new{J:Inj}{S:Sure}{H:Heap}{w:World}(hH:RelH J S H w)(k:Nat)(E:Nat)(rows:List (List IV))(cs:Array Value)(t:TypeId)
  (hrow: ∀(i:Nat) (row:List IV),rows[i]?=some row→row.length=E) (hfit:rows.length*E≤cs.size)
  (hcell: ∀(i:Nat) (row:List IV) (o:Nat) (v:IV),rows[i]?=some row→row[o]?=some v→ ∃u,cs[i*E+o]?=some u∧VR J S v u):
  ∃J',J' (H.fresh k)=some ⟨w.heap.size,0,E,cs.size,false⟩∧RelH J' S (H.new k ⟨E,rows⟩) (w.alloc (.cells cs t))∧Ext J S H w J' S (H.new k ⟨E,rows⟩) (w.alloc (.cells cs t)):=by
 have hnew:J (H.fresh k)=none:=by
  cases h:J (H.fresh k) with
  |none=>rfl
  |some L=>exact absurd (hH.next _ _ h) (by simp[Heap.fresh])
 have hmono: ∀id L,J id=some L→(fun j=>if j=H.fresh k then some (⟨w.heap.size,0,E,cs.size,false⟩:Loc) else J j) id=some L:=by
  intro id L h
  have:id≠H.fresh k:=by intro e;subst e;rw[hnew] at h;cases h
  simp only[if_neg this,h]
 have hold: ∀j B,(H.new k ⟨E,rows⟩).get j=some B→j≠H.fresh k→H.get j=some B:=by
  intro j B hB e;simpa only[Heap.new,if_neg e] using hB
 have hheap: ∀j,j<w.heap.size→(w.alloc (.cells cs t)).heap[j]?=w.heap[j]?:=fun j hj=>Below.heap_alloc w _ j hj
 have hnewb:(w.alloc (.cells cs t)).heap[w.heap.size]?=some (.cells cs t (0,0)):=by show(w.heap.push _)[w.heap.size]?=_;simp
 refine⟨fun j=>if j=H.fresh k then some ⟨w.heap.size,0,E,cs.size,false⟩ else J j,by simp,⟨fun i B hB=>?_,fun i i' M M' hB hB' hM hM' hr=>?_,fun a v hs=>?_,fun i M hM=>?_,fun i s hs=>?_⟩,?_⟩
 ·by_cases e:i=H.fresh k
  ·subst e
   simp only[Heap.new,if_true,Option.some.injEq] at hB
   subst hB
   refine⟨⟨w.heap.size,0,E,cs.size,false⟩,by simp only[if_true],.of ⟨rfl,⟨cs,t,hnewb,rfl,fun i row o v hi ho=>?_⟩,hrow,by simpa using hfit⟩⟩
   obtain⟨u,hu,hvu⟩:=hcell i row o v hi ho
   exact⟨u,by simpa using hu,hvu.mono hmono (fun _ _ h=>h)⟩
  ·obtain⟨M,hM,hat⟩:=hH.blk i B (hold i B hB e)
   exact⟨M,hmono i M hM,(hat.heap (hheap _ (hH.lt (hold i B hB e) hM))).mono hmono (fun _ _ h=>h)⟩
 ·by_cases e:i=H.fresh k<;>by_cases e':i'=H.fresh k
  ·rw[e,e']
  ·simp only[if_pos e,if_neg e',Option.some.injEq] at hM hM'
   have:=hH.hlt ((yf hB').resolve_left e') hM'
   subst hM
   simp at hr;omega
  ·simp only[if_neg e,if_pos e',Option.some.injEq] at hM hM'
   have:=hH.hlt ((yf hB).resolve_left e) hM
   subst hM'
   simp at hr;omega
  ·simp only[if_neg e,if_neg e'] at hM hM'
   exact hH.inj i i' M M' ((yf hB).resolve_left e) ((yf hB').resolve_left e') hM hM' hr
 ·obtain⟨h1,h2⟩:=hH.sure a v hs
  have hlt:=kno_lt h1
  refine⟨by rw[yT (hheap _ hlt)];exact h1,?_⟩
  rintro⟨i,M,hB,hM,hk⟩
  by_cases e:i=H.fresh k
  ·simp only[if_pos e,Option.some.injEq] at hM
   subst hM;simp at hk;omega
  ·simp only[if_neg e] at hM
   exact h2 ⟨i,M,(yf hB).resolve_left e,hM,hk⟩
 ·by_cases e:i=H.fresh k
  ·subst e;simp[Heap.new,Heap.fresh]
  ·simp only[if_neg e] at hM
   have:=hH.next i M hM
   simp only[Heap.new]
   split
   ·rename_i hk;rw[hk] at this;omega
   ·exact this
 ·obtain⟨M,hM,hat⟩:=hH.lps i s hs
  exact⟨M,hmono i M hM,(hat.heap (hheap _ (hH.hlt (.inr ⟨s,hs⟩) hM))).mono hmono (fun _ _ h=>h)⟩
 ·refine⟨hmono,fun _ _ h=>h,fun _ _ h=> .inl h,?_,fun j hj _=>hheap j hj,by simp,rfl,rfl,rfl,fun j=>by simp only[Heap.new];split<;>simp_all,fun k r h=>⟨r,(hheap k (kG h)).trans h⟩⟩
  rintro b ⟨i,M,hB,hM,hk⟩
  by_cases e:i=H.fresh k
  ·simp only[if_pos e,Option.some.injEq] at hM
   subst hM;simp at hk;right;omega
  ·simp only[if_neg e] at hM
   exact .inl ⟨i,M,(yf hB).resolve_left e,hM,hk⟩
theorem rel_del{J:Inj}{S:Sure}{H:Heap}{w:World}(hH:RelH J S H w)(id:Id):RelH J S (H.del id) w∧Ext J S H w J S (H.del id) w:=by
 have hold: ∀j B,(H.del id).get j=some B→H.get j=some B:=by
  intro j B hB
  simp only[Heap.del] at hB
  split at hB
  ·cases hB
  ·exact hB
 have hown: ∀k,Owns J (H.del id) k→Owns J H k:=fun k ⟨i,M,hB,hM,hk⟩=>⟨i,M,has_del hB,hM,hk⟩
 refine⟨⟨fun i B hB=>hH.blk i B (hold i B hB),fun i i' M M' hB hB'=>hH.inj i i' M M' (has_del hB) (has_del hB'),fun a v hs=>⟨(hH.sure a v hs).1,fun h=>(hH.sure a v hs).2 (hown _ h)⟩,hH.next,hH.lps⟩,
  ⟨fun _ _ h=>h,fun _ _ h=>h,fun _ _ h=> .inl h,fun k hk=> .inl (hown k hk),fun _ _ _=>rfl,Nat.le_refl _,rfl,rfl,rfl,fun _=>Nat.le_refl _,fun _ r h=>⟨r,h⟩⟩⟩
theorem rel_move{J:Inj}{S:Sure}{H:Heap}{w:World}(hH:RelH J S H w){id:Id}{b:Blk}{L:Loc}(hb:H.get id=some b)(hJ:J id=some L){cs:Array Value}{t:TypeId}
  (hg:w.heap[L.rb]?=some (.cells cs t (0,0))) (cs':Array Value) (hsz:cs'.size=cs.size) (k i0:Nat) (rows':List (List IV))
  (hfit:L.ro+i0*b.E+rows'.length*b.E≤L.sz)
  (hrow: ∀(i:Nat) (row:List IV),rows'[i]?=some row→row.length=b.E)
  (hcell: ∀(i:Nat) (row:List IV) (o:Nat) (v:IV),rows'[i]?=some row→row[o]?=some v→ ∃u,cs'[L.ro+i0*b.E+i*b.E+o]?=some u∧VR J S v u):
  ∃J',J' (H.fresh k)=some ⟨L.rb,L.ro+i0*b.E,b.E,L.sz,false⟩∧RelH J' S ((H.del id).new k ⟨b.E,rows'⟩) (w.setRow L.rb cs')∧Ext J S H w J' S ((H.del id).new k ⟨b.E,rows'⟩) (w.setRow L.rb cs'):=by
 have hfr:(H.del id).fresh k=H.fresh k:=rfl
 have hnew:J (H.fresh k)=none:=by
  cases h:J (H.fresh k) with
  |none=>rfl
  |some L=>exact absurd (hH.next _ _ h) (by simp[Heap.fresh])
 obtain⟨L0,hL0,hat0⟩:=hH.blk id b hb
 rw[hJ] at hL0;cases hL0
 obtain⟨hmp,hat⟩:=hat0.cells hg
 have hmono: ∀i M,J i=some M→(fun j=>if j=H.fresh k then some (⟨L.rb,L.ro+i0*b.E,b.E,L.sz,false⟩:Loc) else J j) i=some M:=by
  intro i M h
  have:i≠H.fresh k:=by intro e;subst e;rw[hnew] at h;cases h
  simp only[if_neg this,h]
 have hold: ∀j B,((H.del id).new k ⟨b.E,rows'⟩).get j=some B→j≠H.fresh k→H.get j=some B∧j≠id:=by
  intro j B hB e
  have hB':(H.del id).get j=some B:=by simpa only[Heap.new,hfr,if_neg e] using hB
  simp only[Heap.del] at hB'
  split at hB'
  ·cases hB'
  ·rename_i hne;exact⟨hB',hne⟩
 have hhas: ∀j,((H.del id).new k ⟨b.E,rows'⟩).has j→j≠H.fresh k→H.has j∧((∃B,H.get j=some B)→j≠id):=by
  intro j hj e
  have h3:((H.del id).new k ⟨b.E,rows'⟩).loop j=H.loop j:=rfl
  rcases hj with ⟨B,hB⟩|⟨s,hs⟩
  ·obtain⟨h1,h2⟩:=hold j B hB e
   exact⟨.inl ⟨B,h1⟩,fun _=>h2⟩
  ·rw[h3] at hs
   refine⟨.inr ⟨s,hs⟩,?_⟩
   rintro _ rfl
   exact absurd rfl (hH.apart hb hJ hs hJ)
 refine⟨fun j=>if j=H.fresh k then some ⟨L.rb,L.ro+i0*b.E,b.E,L.sz,false⟩ else J j,by simp,⟨fun i B hB=>?_,fun i i' M M' hB hB' hM hM' hr=>?_,fun a v hs=>?_,fun i M hM=>?_,fun i s hs=>?_⟩,?_⟩
 ·by_cases e:i=H.fresh k
  ·subst e
   simp only[Heap.new,hfr,if_true,Option.some.injEq] at hB
   subst hB
   obtain⟨c0,t0,h1,h2,h3⟩:=hat.cell
   rw[hg] at h1;cases h1
   refine⟨⟨L.rb,L.ro+i0*b.E,b.E,L.sz,false⟩,by simp only[if_true],.of ⟨rfl,⟨cs',t,setRow_heap w L.rb cs cs' t _ hg,by rw[hsz,h2],fun i row o v hi ho=>?_⟩,hrow,by simpa using hfit⟩⟩
   obtain⟨u,hu,hvu⟩:=hcell i row o v hi ho
   exact⟨u,hu,hvu.mono hmono (fun _ _ h=>h)⟩
  ·obtain⟨h1,hne⟩:=hold i B hB e
   obtain⟨M,hM,hatM⟩:=hH.blk i B h1
   exact⟨M,hmono i M hM,(hatM.heap (setRow_other w L.rb M.rb cs' (fun hr=>hne (hH.inj i id M L (.inl ⟨B,h1⟩) (.inl ⟨b,hb⟩) hM hJ hr)))).mono hmono (fun _ _ h=>h)⟩
 ·by_cases e:i=H.fresh k<;>by_cases e':i'=H.fresh k
  ·rw[e,e']
  ·simp only[if_pos e,if_neg e',Option.some.injEq] at hM hM'
   obtain⟨h1,hne⟩:=hhas i' hB' e'
   subst hM
   rcases h1 with h1|⟨s,h1⟩
   ·exact absurd (hH.inj i' id M' L (.inl h1) (.inl ⟨b,hb⟩) hM' hJ hr.symm) (hne h1)
   ·exact absurd (show M'.rb=L.rb from hr.symm) (hH.apart hb hJ h1 hM')
  ·simp only[if_neg e,if_pos e',Option.some.injEq] at hM hM'
   obtain⟨h1,hne⟩:=hhas i hB e
   subst hM'
   rcases h1 with h1|⟨s,h1⟩
   ·exact absurd (hH.inj i id M L (.inl h1) (.inl ⟨b,hb⟩) hM hJ hr) (hne h1)
   ·exact absurd (show M.rb=L.rb from hr) (hH.apart hb hJ h1 hM)
  ·simp only[if_neg e,if_neg e'] at hM hM'
   exact hH.inj i i' M M' (hhas i hB e).1 (hhas i' hB' e').1 hM hM' hr
 ·obtain⟨h1,h2⟩:=hH.sure a v hs
  have hne:a.blk≠L.rb:=fun e=>h2 ⟨id,L,.inl ⟨b,hb⟩,hJ,e.symm⟩
  refine⟨by rw[yT (setRow_other w L.rb a.blk cs' hne)];exact h1,?_⟩
  rintro⟨i,M,hB,hM,hk⟩
  by_cases e:i=H.fresh k
  ·simp only[if_pos e,Option.some.injEq] at hM
   subst hM;exact hne hk.symm
  ·simp only[if_neg e] at hM
   exact h2 ⟨i,M,(hhas i hB e).1,hM,hk⟩
 ·by_cases e:i=H.fresh k
  ·subst e;simp[Heap.new,Heap.fresh,Heap.del]
  ·simp only[if_neg e] at hM
   have:=hH.next i M hM
   simp only[Heap.new,Heap.del]
   split
   ·rename_i hk;rw[hk] at this;omega
   ·exact this
 ·obtain⟨M,hM,hat2⟩:=hH.lps i s hs
  exact⟨M,hmono i M hM,(hat2.heap (setRow_other w L.rb M.rb cs' (hH.apart hb hJ hs hM))).mono hmono (fun _ _ h=>h)⟩
 ·refine⟨hmono,fun _ _ h=>h,fun _ _ h=> .inl h,?_,fun j hj ho=>setRow_other w L.rb j cs' (fun e=>ho ⟨id,L,.inl ⟨b,hb⟩,hJ,e.symm⟩),by simp,rfl,rfl,rfl,fun j=>by simp only[Heap.new,Heap.del];split<;>simp_all,fun k r h=>⟨r,(setRow_other w L.rb k cs' (fun e=>by rw[←e,h] at hg;cases hg)).trans h⟩⟩
  rintro x ⟨i,M,hB,hM,hk⟩
  by_cases e:i=H.fresh k
  ·simp only[if_pos e,Option.some.injEq] at hM
   subst hM;exact .inl ⟨id,L,.inl ⟨b,hb⟩,hJ,hk⟩
  ·simp only[if_neg e] at hM
   exact .inl ⟨i,M,(hhas i hB e).1,hM,hk⟩
end Go.Proofs.Ytoojnagdenoknaa.IL
