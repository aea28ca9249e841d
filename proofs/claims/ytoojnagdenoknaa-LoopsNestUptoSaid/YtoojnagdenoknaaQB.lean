/- The layer of owned parts, part 1: what stands for a pure value, and owns blocks. Nothing here speaks of a given program. -/
import Derived.Test.YtoojnagdenoknaaQA
set_option linter.unusedSectionVars false
set_option linter.unnecessarySimpa false
set_option linter.unusedVariables false
set_option linter.unusedSimpArgs false
namespace Go.Proofs.Ytoojnagdenoknaa.IL
open Go Go.RowKit PL
structure Rp (α:Type) where
 E:Nat
 p:List IV→α→SA
 e:α→List IV
 one: ∀{cs x h},p cs x h→cs.length=E∧ ∀v∈cs,v.one=true
 fz: ∀{cs x h} {H:Heap},p cs x h→(∀id b,h id=some (.blk b)→H.get id=some b)→Fzs H cs (e x)
 cl: ∀x,Cl1 (e x)
theorem Join.left{p q r:Part}(j:Join p q r){i:Id}{c:Cel}(h:p i=some c):r i=some c:=by
 rcases j i with ⟨h1,h2⟩|⟨h1,h2⟩
 ·rw[h1] at h;cases h
 ·rw[h2,h]
theorem fzs_cl{H:Heap}: ∀{cs:List IV},Cl1 cs→Fzs H cs cs
 |[],_=> .nil
 |v::cs,h=> .cons (.cl (h v (by simp)).1) (fzs_cl fun w hw=>h w (by simp[hw]))
theorem fzs_append{H:Heap}{a a' b b':List IV}(h:Fzs H a a')(k:Fzs H b b'):Fzs H (a++b) (a'++b'):=by
 induction h with
 |nil=>exact k
 |cons h _ ih=>exact .cons h ih
def Ri{α:Type}(f:α→List IV)(n:Nat)(hn: ∀x,(f x).length=n)(hc: ∀x,Cl1 (f x)):Rp α where
 E:=n
 p:=fun cs x h=>cs=f x∧emp h
 e:=f
 one:=fun⟨h,_⟩=>by subst h;exact⟨hn _,fun v hv=>(hc _ v hv).2⟩
 fz:=fun⟨h,_⟩ _=>by subst h;exact fzs_cl (hc _)
 cl:=hc
def sl{α:Type}(R:Rp α)(v:IV)(xs:List α):SA:=fun h=>
 (v= .nils∧xs=[]∧emp h)∨ ∃id full pre rows post,v= .sb id pre.length xs.length full∧rows.length=xs.length∧star (pt id ⟨R.E,pre++rows++post⟩) (Sep (List.zipWith R.p rows xs)) h
theorem zip_one{α:Type}{R:Rp α}: ∀{rows:List (List IV)} {xs:List α} {h:Part},rows.length=xs.length→Sep (List.zipWith R.p rows xs) h→ ∀r∈rows,r.length=R.E∧ ∀v∈r,v.one=true
 |[],[],_,_,_=>by simp
 |r::rows,x::xs,h,hl,⟨p,q,j,a,b⟩=>by
  intro r' hr'
  rcases List.mem_cons.1 hr' with rfl|hr'
  ·exact R.one a
  ·exact zip_one (by simpa using hl) b r' hr'
 |[],_::_,_,hl,_=>by simp at hl
 |_::_,[],_,hl,_=>by simp at hl
theorem zip_fz{α:Type}{R:Rp α}{H:Heap}: ∀{rows:List (List IV)} {xs:List α} {h:Part},rows.length=xs.length→Sep (List.zipWith R.p rows xs) h→(∀id b,h id=some (.blk b)→H.get id=some b)→
  ∀(r:Nat) (row:List IV) (x:α),rows[r]?=some row→xs[r]?=some x→Fzs H row (R.e x)
 |[],[],_,_,_,_=>by simp
 |r::rows,x::xs,h,hl,⟨p,q,j,a,b⟩,hg=>by
  intro n row y h1 h2
  cases n with
  |zero=>
   simp at h1 h2;subst h1;subst h2
   exact R.fz a fun id b hb=>hg id b (j.left hb)
  |succ n=>exact zip_fz (by simpa using hl) b (fun id b hb=>hg id b (j.comm.left hb)) n row y (by simpa using h1) (by simpa using h2)
 |[],_::_,_,hl,_,_=>by simp at hl
 |_::_,[],_,hl,_,_=>by simp at hl
theorem sl_one{α:Type}{R:Rp α}{v:IV}{xs:List α}{h:Part}(k:sl R v xs h):v.one=true∧v.cells=some [v]:=by
 rcases k with ⟨rfl,_⟩|⟨id,full,pre,rows,post,rfl,_⟩<;>exact⟨rfl,rfl⟩
theorem sl_fz{α:Type}{R:Rp α}{v:IV}{xs:List α}{h:Part}{H:Heap}(k:sl R v xs h)(hg: ∀id b,h id=some (.blk b)→H.get id=some b):Fz H v (.sim (xs.map R.e) false):=by
 rcases k with ⟨rfl,rfl,_⟩|⟨id,full,pre,rows,post,rfl,hl,p,q,j,a,b⟩
 ·exact .nils
 ·have hb:H.get id=some ⟨R.E,pre++rows++post⟩:=hg id _ (j.left (by rw[a id,if_pos rfl]))
  have key:=zip_fz hl b (fun i c hc=>hg i c (j.comm.left hc))
  have hrow: ∀(r:Nat) (row:List IV),r<xs.length→(pre++rows++post)[pre.length+r]?=some row→rows[r]?=some row:=by
   intro r row hr h
   rw[List.append_assoc,List.getElem?_append_right (by omega),List.getElem?_append_left (by omega)] at h
   rw[←h];congr 1;omega
  have hx: ∀(r:Nat) (row':List IV),(xs.map R.e)[r]?=some row'→ ∃x,xs[r]?=some x∧row'=R.e x:=by
   intro r row' h
   rw[List.getElem?_map,Option.map_eq_some_iff] at h
   obtain⟨x,h1,h2⟩:=h
   exact⟨x,h1,h2.symm⟩
  refine .sb hb (by simp;omega) (by simp) (fun r row row' h1 h2=>?_) (fun r row row' c v v' h1 h2 h3 h4=>?_)
  ·obtain⟨x,hx1,rfl⟩:=hx r row' h2
   exact(key r row x (hrow r row (List.getElem?_eq_some_iff.1 hx1).1 h1) hx1).at.1
  ·obtain⟨x,hx1,rfl⟩:=hx r row' h2
   exact(key r row x (hrow r row (List.getElem?_eq_some_iff.1 hx1).1 h1) hx1).at.2 c v v' h3 h4
def Rs{α:Type}(R:Rp α):Rp (List α) where
 E:=1
 p:=fun cs x=>match cs with|[v]=>sl R v x|_=>fun _=>False
 e:=eS R.e
 one:=fun {cs x h} k=>by
  match cs,k with
  |[v],k=>exact⟨rfl,fun w hw=>by simp at hw;subst hw;exact(sl_one k).1⟩
 fz:=fun {cs x h H} k hg=>by
  match cs,k with
  |[v],k=>exact .cons (sl_fz k hg) .nil
 cl:=cl_eS R.cl
def bx{α:Type}(R:Rp α)(v:IV)(x:α):SA:=fun h=> ∃id row,v= .pb id 0 0∧star (pt id ⟨R.E,[row]⟩) (R.p row x) h
theorem bx_fz{α:Type}{R:Rp α}{v:IV}{x:α}{h:Part}{H:Heap}(k:bx R v x h)(hg: ∀id b,h id=some (.blk b)→H.get id=some b):Fz H v (.pim [R.e x] 0 0):=by
 obtain⟨id,row,rfl,p,q,j,a,b⟩:=k
 have hb:H.get id=some ⟨R.E,[row]⟩:=hg id _ (j.left (by rw[a id,if_pos rfl]))
 exact kr hb (R.fz b fun i c hc=>hg i c (j.comm.left hc))
def Rb{α:Type}(R:Rp α):Rp α where
 E:=1
 p:=fun cs x=>match cs with|[v]=>bx R v x|_=>fun _=>False
 e:=eP R.e
 one:=fun {cs x h} k=>by
  match cs,k with
  |[v],⟨id,row,e,_⟩=>exact⟨rfl,fun w hw=>by simp at hw;subst hw;subst e;rfl⟩
 fz:=fun {cs x h H} k hg=>by
  match cs,k with
  |[v],k=>exact .cons (bx_fz k hg) .nil
 cl:=cl_eP R.cl
def Rn{α:Type}:Rp α where
 E:=0
 p:=fun cs _ h=>cs=[]∧emp h
 e:=fun _=>[]
 one:=fun⟨h,_⟩=>by subst h;exact⟨rfl,fun v hv=>by cases hv⟩
 fz:=fun⟨h,_⟩ _=>by subst h;exact .nil
 cl:=fun _=>ya
def Rc{α β:Type}(A:Rp β)(f:α→β)(B:Rp α):Rp α where
 E:=A.E+B.E
 p:=fun cs x h=> ∃c1 c2,cs=c1++c2∧star (A.p c1 (f x)) (B.p c2 x) h
 e:=fun x=>A.e (f x)++B.e x
 one:=fun⟨c1,c2,h,p,q,j,a,b⟩=>by
  subst h
  obtain⟨a1,a2⟩:=A.one a
  obtain⟨b1,b2⟩:=B.one b
  exact⟨by simp[a1,b1],fun v hv=>(List.mem_append.1 hv).elim (a2 v) (b2 v)⟩
 fz:=fun {cs x h H} ⟨c1,c2,h,p,q,j,a,b⟩ hg=>by
  subst h
  exact fzs_append (A.fz a fun i c hc=>hg i c (j.left hc)) (B.fz b fun i c hc=>hg i c (j.comm.left hc))
 cl:=fun x=>cl_append (A.cl _) (B.cl _)
section op
variable {F:SA} {L:List SA} {H:Heap} {α β:Type}
theorem HS.opc{A:Rp β}{f:α→β}{B:Rp α}{row:List IV}{x:α}(n:Nat)(h:HS F L H)(hn:L[n]?=some ((Rc A f B).p row x)): ∃c1 c2,row=c1++c2∧HS F (A.p c1 (f x)::B.p c2 x::L.eraseIdx n) H:=by
 obtain⟨p,q,j,⟨c1,c2,e,s⟩,_,_⟩:=h.out n hn
 have hlt:n<L.length:=(List.getElem?_eq_some_iff.1 hn).1
 obtain⟨w,h2⟩:=h
 have k: ∃c1 c2,row=c1++c2∧star (star (A.p c1 (f x)) (B.p c2 x)) (star tr (star F (Sep (L.set n emp)))) H.part:=by
  have k:=zV (zF h2 (fun _ h=>h) (fun _ h=>zV (zF h (fun _ h=>h) (fun _ h=>yU h hn))))
  obtain⟨p,q,j,⟨c1,c2,e,s⟩,b⟩:=k
  exact⟨c1,c2,e,p,q,j,s,b⟩
 obtain⟨c1,c2,e,k⟩:=k
 refine⟨c1,c2,e,w,?_⟩
 refine zF (zV k) (fun _ h=>h) (fun _ h=>?_)
 refine zF (zV h) (fun _ h=>h) (fun _ h=>?_)
 exact zF (zy h) (fun _ h=>h) (fun _ h=>zF h (fun _ h=>h) (fun _ h=>yo h))
theorem HS.fact{A:SA}{φ:Prop}(n:Nat)(h:HS F L H)(hn:L[n]?=some A)(k: ∀p,A p→φ):φ:=by
 obtain⟨p,q,j,a,_⟩:=h.out n hn
 exact k p a
theorem HS.opi{f:α→List IV}{m:Nat}{hn': ∀x,(f x).length=m}{hc: ∀x,Cl1 (f x)}{row:List IV}{x:α}(n:Nat)(h:HS F L H)(hn:L[n]?=some ((Ri f m hn' hc).p row x)):row=f x∧HS F (L.eraseIdx n) H:=
 ⟨h.fact n hn fun p a=>a.1,by simpa using h.turn (M:=[]) n hn fun p a=>a.2⟩
theorem HS.opn{row:List IV}{x:α}(n:Nat)(h:HS F L H)(hn:L[n]?=some ((Rn (α:=α)).p row x)):row=[]∧HS F (L.eraseIdx n) H:=
 ⟨h.fact n hn fun p a=>a.1,by simpa using h.turn (M:=[]) n hn fun p a=>a.2⟩
theorem HS.ops{R:Rp α}{row:List IV}{x:List α}(n:Nat)(h:HS F L H)(hn:L[n]?=some ((Rs R).p row x)): ∃v,row=[v]∧HS F (L.set n (sl R v x)) H:=by
 obtain⟨v,rfl⟩: ∃v,row=[v]:=h.fact n hn fun p a=>by
  match row,a with
  |[v],_=>exact⟨v,rfl⟩
 exact⟨v,rfl,h.turn1 n hn fun p a=>a⟩
theorem HS.opb{R:Rp α}{row:List IV}{x:α}(n:Nat)(h:HS F L H)(hn:L[n]?=some ((Rb R).p row x)): ∃v,row=[v]∧HS F (L.set n (bx R v x)) H:=by
 obtain⟨v,rfl⟩: ∃v,row=[v]:=h.fact n hn fun p a=>by
  match row,a with
  |[v],_=>exact⟨v,rfl⟩
 exact⟨v,rfl,h.turn1 n hn fun p a=>a⟩
theorem HS.opx{R:Rp α}{v:IV}{x:α}(n:Nat)(h:HS F L H)(hn:L[n]?=some (bx R v x)): ∃id row,v= .pb id 0 0∧HS F (IL.pt id ⟨R.E,[row]⟩::R.p row x::L.eraseIdx n) H:=by
 obtain⟨w,h2⟩:=h
 have k:=zV (zF h2 (fun _ h=>h) (fun _ h=>zV (zF h (fun _ h=>h) (fun _ h=>yU h hn))))
 obtain⟨p,q,j,⟨id,row,e,s⟩,b⟩:=k
 refine⟨id,row,e,w,?_⟩
 have k2:star (star (IL.pt id ⟨R.E,[row]⟩) (R.p row x)) (star tr (star F (Sep (L.set n emp)))) H.part:=⟨p,q,j,s,b⟩
 refine zF (zV k2) (fun _ h=>h) (fun _ h=>?_)
 refine zF (zV h) (fun _ h=>h) (fun _ h=>?_)
 exact zF (zy h) (fun _ h=>h) (fun _ h=>zF h (fun _ h=>h) (fun _ h=>yo h))
theorem HS.fzS{R:Rp α}{v:IV}{xs:List α}(n:Nat)(h:HS F L H)(hn:L[n]?=some (sl R v xs)):Fz H v (.sim (xs.map R.e) false):=by
 obtain⟨p,q,j,a,_⟩:=h.out n hn
 exact sl_fz a fun id b hb=>part_blk.1 (j.left hb)
theorem HS.fzB{R:Rp α}{v:IV}{x:α}(n:Nat)(h:HS F L H)(hn:L[n]?=some (bx R v x)):Fz H v (.pim [R.e x] 0 0):=by
 obtain⟨p,q,j,a,_⟩:=h.out n hn
 exact bx_fz a fun id b hb=>part_blk.1 (j.left hb)
end op
theorem zk{α:Type}{R:Rp α}{id:Id}{row:List IV}{x:α}{E:Nat}(hE:E=R.E){L:List SA}(k: ∀p,Sep L p→R.p row x p)(p:Part)(h:Sep (pt id ⟨E,[row]⟩::L) p):bx R (.pb id 0 0) x p:=by
 subst hE
 exact⟨id,row,rfl,zF h (fun _ h=>h) k⟩
theorem sep_one{A:SA}{p:Part}(h:Sep [A] p):A p:=star_emp.1 h
theorem fold_i{α:Type}{f:α→List IV}{n:Nat}{hn: ∀x,(f x).length=n}{hc: ∀x,Cl1 (f x)}{row:List IV}{x:α}(e:row=f x)(p:Part)(h:Sep [] p):(Ri f n hn hc).p row x p:=⟨e,h⟩
theorem fold_n{α:Type}{x:α}(p:Part)(h:Sep [] p):(Rn (α:=α)).p [] x p:=⟨rfl,h⟩
theorem yZ{α:Type}{R:Rp α}{v:IV}{x:List α}(p:Part)(h:Sep [sl R v x] p):(Rs R).p [v] x p:=sep_one h
theorem fold_b{α:Type}{R:Rp α}{v:IV}{x:α}(p:Part)(h:Sep [bx R v x] p):(Rb R).p [v] x p:=sep_one h
end Go.Proofs.Ytoojnagdenoknaa.IL
