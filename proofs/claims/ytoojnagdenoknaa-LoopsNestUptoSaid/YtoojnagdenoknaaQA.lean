/- The layer of owned parts, part 0: heaps in parts that do not meet. Nothing here speaks of a given program. -/
import Derived.Test.YtoojnagdenoknaaPX
import Derived.Test.YtoojnagdenoknaaIL20
set_option linter.unusedSectionVars false
set_option linter.unnecessarySimpa false
set_option linter.unusedVariables false
set_option linter.unusedSimpArgs false
namespace Go.Proofs.Ytoojnagdenoknaa.IL
open Go Go.RowKit PL
inductive Cel where
 |blk (b:Blk)
 |lp (s:LS)
abbrev Part:=Id→Option Cel
abbrev SA:=Part→Prop
def Heap.part(H:Heap):Part:=fun id=>match H.get id with|some b=>some (.blk b)|none=>(H.loop id).map .lp
def Join(p q r:Part):Prop:= ∀i,(p i=none∧r i=q i)∨(q i=none∧r i=p i)
theorem Join.comm{p q r:Part}(h:Join p q r):Join q p r:=fun i=>(h i).symm
theorem Join.assoc{p q r s t:Part}(h:Join p q r)(k:Join r s t): ∃u,Join q s u∧Join p u t:=by
 have key: ∀(a b c d e:Option Cel),((a=none∧c=b)∨(b=none∧c=a))→((c=none∧e=d)∨(d=none∧e=c))→
   ((b=none∧(b <|> d)=d)∨(d=none∧(b <|> d)=b))∧((a=none∧e=(b <|> d))∨((b <|> d)=none∧e=a)):=by
  intro a b c d e
  rintro(⟨rfl,rfl⟩|⟨rfl,rfl⟩) (⟨rfl,rfl⟩|⟨rfl,rfl⟩)
  ·simp
  ·cases e<;>simp
  ·simp
  ·simp
 exact⟨fun i=>(q i <|> s i),fun i=>(key _ _ _ _ _ (h i) (k i)).1,fun i=>(key _ _ _ _ _ (h i) (k i)).2⟩
def emp:SA:=fun p=> ∀i,p i=none
def tr:SA:=fun _=>True
def star(A B:SA):SA:=fun r=> ∃p q,Join p q r∧A p∧B q
def Sep:List SA→SA
 |[]=>emp
 |A::L=>star A (Sep L)
theorem zv{A B:SA}{h:Part}(k:star A B h):star B A h:=by obtain⟨p,q,j,a,b⟩:=k;exact⟨q,p,j.comm,b,a⟩
theorem zy{A B C:SA}{h:Part}(k:star (star A B) C h):star A (star B C) h:=by
 obtain⟨r,s,j,⟨p,q,j2,a,b⟩,c⟩:=k
 obtain⟨u,u1,u2⟩:=j2.assoc j
 exact⟨p,u,u2,a,q,s,u1,b,c⟩
theorem zF{A A' B B':SA}{h:Part}(k:star A B h)(f: ∀p,A p→A' p)(g: ∀p,B p→B' p):star A' B' h:=by obtain⟨p,q,j,a,b⟩:=k;exact⟨p,q,j,f p a,g q b⟩
theorem yA{A B C:SA}{h:Part}(k:star A (star B C) h):star (star A B) C h:=zv (zy (zv (zy (zv k))))
theorem zV{A B C:SA}{h:Part}(k:star A (star B C) h):star B (star A C) h:=
 zy (zF (yA k) (fun _=>zv) (fun _ h=>h))
theorem emp_star{A:SA}{h:Part}:star emp A h↔A h:=by
 constructor
 ·rintro⟨p,q,j,a,b⟩
  have:h=q:=by
   funext i
   rcases j i with ⟨h1,h2⟩|⟨h1,h2⟩
   ·exact h2
   ·rw[h2,h1];exact a i
  rw[this];exact b
 ·intro b
  exact⟨fun _=>none,h,fun i=> .inl ⟨rfl,rfl⟩,fun _=>rfl,b⟩
theorem star_emp{A:SA}{h:Part}:star A emp h↔A h:=⟨fun k=>emp_star.1 (zv k),fun k=>zv (emp_star.2 k)⟩
theorem tr_tr{A:SA}{h:Part}(k:star tr (star tr A) h):star tr A h:=zF (yA k) (fun _ _=>trivial) (fun _ h=>h)
theorem yU{A:SA}: ∀{L:List SA} {n:Nat} {h:Part},Sep L h→L[n]?=some A→star A (Sep (L.set n emp)) h
 |[],n,h,_,hn=>by simp at hn
 |B::L,0,h,k,hn=>by
  simp at hn;subst hn
  exact zF k (fun _ h=>h) (fun _ h=>emp_star.2 h)
 |B::L,n+1,h,k,hn=>zV (zF k (fun _ h=>h) (fun _ h=>yU h (by simpa using hn)))
theorem zzi{A:SA}: ∀{L:List SA} {n:Nat} {h:Part},star A (Sep (L.set n emp)) h→n<L.length→Sep (L.set n A) h
 |[],n,h,_,hn=>by simp at hn
 |B::L,0,h,k,hn=>zF k (fun _ h=>h) (fun _ h=>emp_star.1 h)
 |B::L,n+1,h,k,hn=>zF (zV k) (fun _ h=>h) (fun _ h=>zzi h (by simpa using hn))
theorem yo: ∀{L:List SA} {n:Nat} {h:Part},Sep (L.set n emp) h→Sep (L.eraseIdx n) h
 |[],n,h,k=>by simpa using k
 |B::L,0,h,k=>emp_star.1 k
 |B::L,n+1,h,k=>zF k (fun _ h=>h) (fun _ h=>yo h)
theorem Sep_append: ∀{L M:List SA} {h:Part},Sep (L++M) h↔star (Sep L) (Sep M) h
 |[],M,h=>emp_star.symm
 |B::L,M,h=>by
  constructor
  ·intro k
   exact yA (zF k (fun _ h=>h) (fun _ h=>Sep_append.1 h))
  ·intro k
   exact zF (zy k) (fun _ h=>h) (fun _ h=>Sep_append.2 h)
def sel(L:List SA)(is:List Nat):List SA:=is.map fun i=>L.getD i emp
theorem Sep_sel: ∀{is:List Nat} {L:List SA} {h:Part},Sep L h→is.Nodup→star tr (Sep (sel L is)) h
 |[],L,h,k,_=>⟨h,fun _=>none,fun i=> .inr ⟨rfl,rfl⟩,trivial,fun _=>rfl⟩
 |i::is,L,h,k,hn=>by
  have hni:i∉is:=(List.nodup_cons.1 hn).1
  have hsel: ∀M:List SA,sel (M.set i emp) is=sel M is:=by
   intro M
   refine List.map_congr_left fun j hj=>?_
   have:i≠j:=fun e=>hni (e▸hj)
   simp[List.getD_eq_getElem?_getD,List.getElem?_set_ne this]
  by_cases hi:i<L.length
  ·have k2:=zF (yU k (List.getElem?_eq_getElem hi)) (fun _ h=>h) (fun _ h=>Sep_sel h (List.nodup_cons.1 hn).2)
   rw[hsel] at k2
   refine zF (zV k2) (fun _ h=>h) (fun _ h=>?_)
   have e:sel L (i::is)=L[i]::sel L is:=by simp[sel,List.getD_eq_getElem?_getD,hi]
   rw[e];exact h
  ·have e:sel L (i::is)=emp::sel L is:=by simp[sel,List.getD_eq_getElem?_getD,List.getElem?_eq_none (Nat.le_of_not_lt hi)]
   rw[e]
   exact zF (Sep_sel k (List.nodup_cons.1 hn).2) (fun _ h=>h) (fun _ h=>emp_star.2 h)
structure Hwf (H:Heap):Prop where
 lt: ∀id c,H.part id=some c→id.g<H.next id.k
 one: ∀id b s,H.get id=some b→H.loop id=some s→False
def HS(F:SA)(L:List SA)(H:Heap):Prop:=Hwf H∧star tr (star F (Sep L)) H.part
theorem RelH.hwf{J:Inj}{S:Sure}{H:Heap}{w:World}(h:RelH J S H w):Hwf H:=by
 refine⟨fun id c hc=>?_,fun id b s hb hs=>?_⟩
 ·unfold Heap.part at hc
  split at hc
  ·rename_i b hb
   obtain⟨L,hL,_⟩:=h.blk id b hb
   exact h.next id L hL
  ·cases hs:H.loop id with
   |none=>rw[hs] at hc;cases hc
   |some s=>
    obtain⟨L,hL,_⟩:=h.lps id s hs
    exact h.next id L hL
 ·obtain⟨L,hL,_⟩:=h.blk id b hb
  exact h.apart hb hL hs hL rfl
theorem HS.nil{H:Heap}(h:Hwf H):HS tr [] H:=⟨h,H.part,fun _=>none,fun i=> .inr ⟨rfl,rfl⟩,trivial,fun _=>none,fun _=>none,fun i=> .inl ⟨rfl,rfl⟩,trivial,fun _=>rfl⟩
theorem HS.mono{F F':SA}{L L':List SA}{H:Heap}(h:HS F L H)(k: ∀p,F p→F' p)(k': ∀p,Sep L p→Sep L' p):HS F' L' H:=⟨h.1,zF h.2 (fun _ h=>h) (fun _ h=>zF h k k')⟩
theorem HS.sel{F:SA}{L:List SA}{H:Heap}(h:HS F L H)(is:List Nat)(hn:is.Nodup):HS F (sel L is) H:=
 ⟨h.1,tr_tr (zF h.2 (fun _ h=>h) (fun _ h=>zV (zF h (fun _ h=>h) (fun _ h=>Sep_sel h hn))))⟩
theorem HS.out{F:SA}{L:List SA}{H:Heap}{A:SA}(n:Nat)(h:HS F L H)(hn:L[n]?=some A):
  ∃p q,Join p q H.part∧A p∧(∀A' p' H',A' p'→Join p' q H'.part→Hwf H'→HS F (L.set n A') H')∧ ∀H',H'.part=q→Hwf H'→HS F (L.eraseIdx n) H':=by
 have hlt:n<L.length:=(List.getElem?_eq_some_iff.1 hn).1
 have k:star A (star tr (star F (Sep (L.set n emp)))) H.part:=zV (zF h.2 (fun _ h=>h) (fun _ h=>zV (zF h (fun _ h=>h) (fun _ h=>yU h hn))))
 obtain⟨p,q,j,a,b⟩:=k
 refine⟨p,q,j,a,fun A' p' H' a' j' w=>⟨w,?_⟩,fun H' e w=>⟨w,?_⟩⟩
 ·have k2:star A' (star tr (star F (Sep (L.set n emp)))) H'.part:=⟨p',q,j',a',b⟩
  exact zF (zV k2) (fun _ h=>h) (fun _ h=>zF (zV h) (fun _ h=>h) (fun _ h=>zzi h hlt))
 ·rw[e]
  exact zF b (fun _ h=>h) (fun _ h=>zF h (fun _ h=>h) (fun _ h=>yo h))
theorem HS.cons{F:SA}{L:List SA}{H H':Heap}{A:SA}{p:Part}(h:HS F L H)(a:A p)(j:Join p H.part H'.part)(w:Hwf H'):HS F (A::L) H':=
 ⟨w,by
  have k:star A (star tr (star F (Sep L))) H'.part:=⟨p,H.part,j,a,h.2⟩
  exact zF (zV k) (fun _ h=>h) (fun _ h=>zV h)⟩
theorem HS.turn{F:SA}{L:List SA}{H:Heap}{A:SA}{M:List SA}(n:Nat)(h:HS F L H)(hn:L[n]?=some A)(k: ∀p,A p→Sep M p):HS F (M++L.eraseIdx n) H:=by
 refine⟨h.1,zF h.2 (fun _ h=>h) (fun _ h=>zF h (fun _ h=>h) (fun _ h=>Sep_append.2 (zF (yU h hn) k (fun _ h=>yo h))))⟩
theorem HS.turn1{F:SA}{L:List SA}{H:Heap}{A A':SA}(n:Nat)(h:HS F L H)(hn:L[n]?=some A)(k: ∀p,A p→A' p):HS F (L.set n A') H:=by
 have hlt:n<L.length:=(List.getElem?_eq_some_iff.1 hn).1
 exact⟨h.1,zF h.2 (fun _ h=>h) (fun _ h=>zF h (fun _ h=>h) (fun _ h=>zzi (zF (yU h hn) k (fun _ h=>h)) hlt))⟩
theorem HS.ex{ι:Type}{F:SA}{L:List SA}{H:Heap}{A:SA}{B:ι→SA}(n:Nat)(h:HS F L H)(hn:L[n]?=some A)(k: ∀p,A p→ ∃i,B i p): ∃i,HS F (L.set n (B i)) H:=by
 have hlt:n<L.length:=(List.getElem?_eq_some_iff.1 hn).1
 have kk:star A (star tr (star F (Sep (L.set n emp)))) H.part:=zV (zF h.2 (fun _ h=>h) (fun _ h=>zV (zF h (fun _ h=>h) (fun _ h=>yU h hn))))
 obtain⟨p,q,j,a,b⟩:=kk
 obtain⟨i,hi⟩:=k p a
 refine⟨i,h.1,?_⟩
 have k2:star (B i) (star tr (star F (Sep (L.set n emp)))) H.part:=⟨p,q,j,hi,b⟩
 exact zF (zV k2) (fun _ h=>h) (fun _ h=>zF (zV h) (fun _ h=>h) (fun _ h=>zzi h hlt))
theorem HS.drop{F:SA}{L:List SA}{H:Heap}{A:SA}(n:Nat)(h:HS F L H)(hn:L[n]?=some A):HS F (L.eraseIdx n) H:=by
 have kk:star A (star tr (star F (Sep (L.set n emp)))) H.part:=zV (zF h.2 (fun _ h=>h) (fun _ h=>zV (zF h (fun _ h=>h) (fun _ h=>yU h hn))))
 refine⟨h.1,zF (yA kk) (fun _ _=>trivial) (fun _ h=>zF h (fun _ h=>h) (fun _ h=>yo h))⟩
theorem HS.turnT{F:SA}{L:List SA}{H:Heap}{A A':SA}(n:Nat)(h:HS F L H)(hn:L[n]?=some A)(k: ∀p,A p→star tr A' p):HS F (A'::L.eraseIdx n) H:=by
 have kk:star A (star tr (star F (Sep (L.set n emp)))) H.part:=zV (zF h.2 (fun _ h=>h) (fun _ h=>zV (zF h (fun _ h=>h) (fun _ h=>yU h hn))))
 have k1:=zF kk k (fun _ h=>h)
 have k2:=zF (zy k1) (fun _ h=>h) (fun _ h=>zV h)
 refine⟨h.1,zF (tr_tr k2) (fun _ h=>h) (fun _ h=>?_)⟩
 exact zF (zV h) (fun _ h=>h) (fun _ h=>zF h (fun _ h=>h) (fun _ h=>yo h))
theorem HS.two{F:SA}{L:List SA}{H:Heap}{A B:SA}(n:Nat)(h:HS F L H)(hn:L[n]?=some (star A B)):HS F (A::B::L.eraseIdx n) H:=
 h.turn (M:=[A,B]) n hn fun p h=>zF h (fun _ h=>h) fun _ h=>star_emp.2 h
theorem HS.join{F:SA}{L:List SA}{H:Heap}{A B C:SA}(h:HS F (A::B::L) H)(k: ∀p,star A B p→C p):HS F (C::L) H:=
 h.mono (fun _ h=>h) fun p h=>zF (yA h) k (fun _ h=>h)
theorem HS.head{F:SA}{L M N:List SA}{H:Heap}(h:HS F (L++M) H)(k: ∀p,Sep L p→Sep N p):HS F (N++M) H:=
 h.mono (fun _ h=>h) fun _ h=>Sep_append.2 (zF (Sep_append.1 h) k (fun _ h=>h))
theorem HS.framed{F:SA}{L M:List SA}{H:Heap}(h:HS F (L++M) H):HS (star F (Sep M)) L H:=
 ⟨h.1,zF h.2 (fun _ h=>h) (fun _ h=>yA (zF h (fun _ h=>h) (fun _ h=>zv (Sep_append.1 h))))⟩
theorem HS.unframed{F:SA}{L M:List SA}{H:Heap}(h:HS (star F (Sep M)) L H):HS F (L++M) H:=
 ⟨h.1,zF h.2 (fun _ h=>h) (fun _ h=>zF (zy h) (fun _ h=>h) (fun _ h=>Sep_append.2 (zv h)))⟩
def pt(id:Id)(b:Blk):SA:=fun p=> ∀i,p i=if i=id then some (.blk b) else none
def lpa(id:Id)(s:LS):SA:=fun p=> ∀i,p i=if i=id then some (.lp s) else none
theorem part_blk{H:Heap}{id:Id}{b:Blk}:H.part id=some (.blk b)↔H.get id=some b:=by
 unfold Heap.part
 cases h:H.get id with
 |some b'=>simp
 |none=>cases H.loop id<;>simp
theorem part_lp{H:Heap}(w:Hwf H){id:Id}{s:LS}:H.part id=some (.lp s)↔H.loop id=some s:=by
 unfold Heap.part
 cases h:H.get id with
 |some b'=>
  simp only[reduceCtorEq,false_iff,Option.some.injEq]
  intro e;exact w.one _ _ _ h e
 |none=>cases H.loop id<;>simp
theorem zzb{H:Heap}{id:Id}{b:Blk}{p q:Part}(a:pt id b p)(j:Join p q H.part):H.get id=some b:=by
 rw[←part_blk]
 rcases j id with ⟨h1,h2⟩|⟨h1,h2⟩
 ·rw[a id,if_pos rfl] at h1;cases h1
 ·rw[h2,a id,if_pos rfl]
theorem HS.pt{F:SA}{L:List SA}{H:Heap}{id:Id}{b:Blk}(h:HS F L H)(n:Nat)(hn:L[n]?=some (pt id b)):H.get id=some b:=by
 obtain⟨p,q,j,a,_⟩:=h.out n hn
 exact zzb a j
theorem part_put{H:Heap}{id:Id}{b:Blk}(i:Id):(H.put id b).part i=if i=id then some (.blk b) else H.part i:=by
 unfold Heap.part
 simp only[ke,put_loop]
 by_cases e:i=id<;>simp[e]
theorem part_new{H:Heap}{k:Nat}{b:Blk}(i:Id):(H.new k b).part i=if i=⟨k,H.next k⟩ then some (.blk b) else H.part i:=by
 unfold Heap.part
 simp only[heap_new,new_loop]
 by_cases e:i=⟨k,H.next k⟩<;>simp[e]
theorem part_del{H:Heap}(w:Hwf H){id:Id}{b:Blk}(hb:H.get id=some b)(i:Id):(H.del id).part i=if i=id then none else H.part i:=by
 unfold Heap.part
 simp only[heap_del,del_loop]
 by_cases e:i=id
 ·subst e
  cases hs:H.loop i with
  |none=>simp
  |some s=>exact(w.one _ _ _ hb hs).elim
 ·simp[e]
theorem Hwf.put{H:Heap}(w:Hwf H){id:Id}{b b':Blk}(hb:H.get id=some b):Hwf (H.put id b'):=by
 refine⟨fun i c hc=>?_,fun i c s hc hs=>?_⟩
 ·rw[part_put] at hc
  simp only[zzW]
  split at hc
  ·rename_i e;subst e;exact w.lt i _ (part_blk.2 hb)
  ·exact w.lt i c hc
 ·simp only[ke] at hc
  split at hc
  ·rename_i e;subst e;exact w.one i b s hb hs
  ·exact w.one i c s hc hs
theorem Hwf.fresh{H:Heap}(w:Hwf H)(k:Nat):H.part ⟨k,H.next k⟩=none:=by
 cases h:H.part ⟨k,H.next k⟩ with
 |none=>rfl
 |some c=>exact absurd (w.lt _ _ h) (by simp)
theorem Hwf.new{H:Heap}(w:Hwf H){k:Nat}{b:Blk}:Hwf (H.new k b):=by
 have hf:=w.fresh k
 refine⟨fun i c hc=>?_,fun i c s hc hs=>?_⟩
 ·rw[part_new] at hc
  simp only[zzX]
  split at hc
  ·rename_i e;subst e;simp
  ·have:=w.lt i c hc
   split
   ·rename_i e;rw[e] at this;omega
   ·exact this
 ·simp only[heap_new] at hc
  split at hc
  ·rename_i e;subst e
   have:H.loop ⟨k,H.next k⟩=some s:=hs
   unfold Heap.part at hf
   split at hf
   ·cases hf
   ·rw[this] at hf;cases hf
  ·exact w.one i c s hc hs
theorem Hwf.del{H:Heap}(w:Hwf H){id:Id}{b:Blk}(hb:H.get id=some b):Hwf (H.del id):=by
 refine⟨fun i c hc=>?_,fun i c s hc hs=>?_⟩
 ·rw[part_del w hb] at hc
  simp only[kY]
  split at hc
  ·cases hc
  ·exact w.lt i c hc
 ·simp only[heap_del] at hc
  split at hc
  ·cases hc
  ·exact w.one i c s hc hs
theorem join_put{H:Heap}{id:Id}{b b':Blk}{p q:Part}(a:pt id b p)(j:Join p q H.part):Join (fun i=>if i=id then some (.blk b') else none) q (H.put id b').part:=by
 intro i
 rw[part_put]
 by_cases e:i=id
 ·subst e
  refine .inr ⟨?_,by simp⟩
  rcases j i with ⟨h1,h2⟩|⟨h1,h2⟩
  ·rw[a i,if_pos rfl] at h1;cases h1
  ·exact h1
 ·rcases j i with ⟨h1,h2⟩|⟨h1,h2⟩
  ·exact .inl ⟨by simp[e],by simp[e,h2]⟩
  ·refine .inl ⟨by simp[e],?_⟩
   rw[if_neg e,h2,h1,a i,if_neg e]
theorem HS.put{F:SA}{L:List SA}{H:Heap}{id:Id}{b:Blk}(h:HS F L H)(n:Nat)(hn:L[n]?=some (IL.pt id b))(b':Blk):HS F (L.set n (IL.pt id b')) (H.put id b'):=by
 obtain⟨p,q,j,a,k,_⟩:=h.out n hn
 exact k _ _ _ (fun i=>rfl) (join_put a j) (h.1.put (zzb a j))
theorem HS.new{F:SA}{L:List SA}{H:Heap}(h:HS F L H)(k:Nat)(b:Blk):HS F (IL.pt ⟨k,H.next k⟩ b::L) (H.new k b):=by
 refine h.cons (p:=fun i=>if i=⟨k,H.next k⟩ then some (.blk b) else none) (fun i=>rfl) (fun i=>?_) h.1.new
 rw[part_new]
 by_cases e:i=⟨k,H.next k⟩
 ·subst e;exact .inr ⟨h.1.fresh k,by simp⟩
 ·exact .inl ⟨by simp[e],by simp[e]⟩
theorem HS.move{F:SA}{L:List SA}{H:Heap}{id:Id}{b:Blk}(h:HS F L H)(n:Nat)(hn:L[n]?=some (IL.pt id b))(k:Nat)(b':Blk):HS F (L.set n (IL.pt ⟨k,H.next k⟩ b')) ((H.del id).new k b'):=by
 obtain⟨p,q,j,a,kk,_⟩:=h.out n hn
 have hg:=zzb a j
 refine kk _ _ _ (fun i=>rfl) (fun i=>?_) (h.1.del hg).new
 rw[part_new,part_del h.1 hg]
 simp only[kY]
 have hq:q id=none:=by
  rcases j id with ⟨h1,h2⟩|⟨h1,h2⟩
  ·rw[a id,if_pos rfl] at h1;cases h1
  ·exact h1
 by_cases e:i=⟨k,H.next k⟩
 ·subst e
  refine .inr ⟨?_,by simp⟩
  have hf:=h.1.fresh k
  rcases j ⟨k,H.next k⟩ with ⟨h1,h2⟩|⟨h1,h2⟩
  ·rw[←h2,hf]
  ·exact h1
 ·refine .inl ⟨by simp[e],?_⟩
  rw[if_neg e]
  by_cases e2:i=id
  ·subst e2;simp[hq]
  ·rw[if_neg e2]
   rcases j i with ⟨h1,h2⟩|⟨h1,h2⟩
   ·exact h2
   ·rw[h2,h1,a i,if_neg e2]
theorem HS.del{F:SA}{L:List SA}{H:Heap}{id:Id}{b:Blk}(h:HS F L H)(n:Nat)(hn:L[n]?=some (IL.pt id b)):HS F (L.eraseIdx n) (H.del id):=by
 obtain⟨p,q,j,a,_,kk⟩:=h.out n hn
 have hg:=zzb a j
 refine kk _ ?_ (h.1.del hg)
 funext i
 rw[part_del h.1 hg]
 by_cases e:i=id
 ·subst e
  rcases j i with ⟨h1,h2⟩|⟨h1,h2⟩
  ·rw[a i,if_pos rfl] at h1;cases h1
  ·simp[h1]
 ·rw[if_neg e]
  rcases j i with ⟨h1,h2⟩|⟨h1,h2⟩
  ·exact h2
  ·rw[h2,h1,a i,if_neg e]
end Go.Proofs.Ytoojnagdenoknaa.IL
