/- The layer of owned parts, part 2: frames as lists; what is owned becomes immutable. Nothing here speaks of a given program. -/
import Derived.Test.YtoojnagdenoknaaQB
set_option linter.unusedSectionVars false
set_option linter.unnecessarySimpa false
set_option linter.unusedVariables false
set_option linter.unusedSimpArgs false
namespace Go.Proofs.Ytoojnagdenoknaa.IL
open Go Go.RowKit PL
def look:List (Nat×IV)→Nat→IV
 |[],_=> .junk
 |(k,v)::l,t=>if t=k then v else look l t
def fr(n:Nat)(l:List (Nat×IV)):Fr:={n:=n,b:=0,get:=look l}
theorem fr_get(n:Nat)(l:List (Nat×IV))(t:Nat):(fr n l).get t=look l t:=rfl
theorem fr_n(n:Nat)(l:List (Nat×IV)):(fr n l).n=n:=rfl
theorem fr_b(n:Nat)(l:List (Nat×IV)):(fr n l).b=0:=rfl
theorem yN(k t:Nat)(v:IV)(l:List (Nat×IV)):look ((k,v)::l) t=if t=k then v else look l t:=rfl
theorem look_nil(t:Nat):look [] t= .junk:=rfl
def Fi(a:Fr)(n:Nat)(l:List (Nat×IV)):Prop:=a.n=n∧a.b=0∧l.map (fun p=>a.get p.1)=l.map (·.2)
theorem look_mem: ∀{l:List (Nat×IV)} {t:Nat},look l t= .junk∨(t,look l t)∈l
 |[],t=> .inl rfl
 |(k,v)::l,t=>by
  rw[yN]
  by_cases h:t=k
  ·subst h;simp
  ·rw[if_neg h]
   rcases look_mem (l:=l) (t:=t) with h1|h1
   ·exact .inl h1
   ·exact .inr (List.mem_cons_of_mem _ h1)
theorem map_eq_mem{l:List (Nat×IV)}{f:Nat→IV}(h:l.map (fun p=>f p.1)=l.map (·.2)): ∀p∈l,f p.1=p.2:=by
 induction l with
 |nil=>simp
 |cons q l ih=>
  simp only[List.map_cons,List.cons.injEq] at h
  intro p hp
  rcases List.mem_cons.1 hp with rfl|hp
  ·exact h.1
  ·exact ih h.2 p hp
theorem Fi.rel{J:Inj}{S:Sure}{a:Fr}{ra:Act}{n:Nat}{l:List (Nat×IV)}(h:Fi a n l)(hF:RelF J S a ra):RelF J S (fr n l) ra:=by
 refine⟨hF.glob,by rw[hF.size];exact h.1,fun t=>?_⟩
 rw[fr_get]
 rcases look_mem (l:=l) (t:=t) with h1|h1
 ·rw[h1];exact .junk _
 ·have:=map_eq_mem h.2.2 _ h1
  simp only at this
  rw[←this];exact hF.val t
def lk:List (Nat×IV)→Nat→Option IV
 |[],_=>none
 |(k,v)::l,t=>if t=k then some v else lk l t
theorem lk_mem: ∀{l:List (Nat×IV)} {t:Nat} {v:IV},lk l t=some v→(t,v)∈l
 |[],t,v,h=>by cases h
 |(k,w)::l,t,v,h=>by
  unfold lk at h
  split at h
  ·rename_i e;cases h;subst e;simp
  ·exact List.mem_cons_of_mem _ (lk_mem h)
theorem Fi.sub{a:Fr}{n:Nat}{l l':List (Nat×IV)}(h:Fi a n l)(hs:l'.map (fun p=>lk l p.1)=l'.map (fun p=>some p.2)):Fi a n l':=by
 refine⟨h.1,h.2.1,?_⟩
 refine List.map_congr_left fun p hp=>?_
 have: ∀{l':List (Nat×IV)},l'.map (fun p=>lk l p.1)=l'.map (fun p=>some p.2)→ ∀p∈l',lk l p.1=some p.2:=by
  intro l'
  induction l' with
  |nil=>simp
  |cons q l' ih=>
   intro h p hp
   simp only[List.map_cons,List.cons.injEq] at h
   rcases List.mem_cons.1 hp with rfl|hp
   ·exact h.1
   ·exact ih h.2 p hp
 exact map_eq_mem h.2.2 _ (lk_mem (this hs p hp))
section
variable {P:Program} {c:Code} {Q:Exit→Fr→Heap→Prop} {a:Fr} {H:Heap} {F:SA} {L:List SA}
theorem zg{n:Nat}{l:List (Nat×IV)}(h:Fi a n l)(k:W P c Q (fr n l) H):W P c Q a H:=fun B ro J S ra w hF hH hO=>k B ro J S ra w (h.rel hF) hH hO
theorem zL(n:Nat)(l:List (Nat×IV))(hn:a.n=n)(hb:a.b=0)(h:l.map (fun p=>a.get p.1)=l.map (·.2))(k:W P c Q (fr n l) H):W P c Q a H:=zg ⟨hn,hb,h⟩ k
end
theorem sees_gen{a a2:Fr}{H H1 H2:Heap}{G:IV→IV→Prop}(hsub: ∀id b,H1.get id=some b→H.get id=some b)(hn:H1.next=H.next)(hl: ∀id,H1.loop id=none)
  (h2n:H2.next=H.next) (h2: ∀id b2,H2.get id=some b2→H1.get id=none∧ ∃b,H.get id=some b∧b2.E=b.E∧b2.rows.length=b.rows.length∧ ∀(i:Nat) (row row2:List IV),b.rows[i]?=some row→b2.rows[i]?=some row2→row2.length=row.length∧ ∀(o:Nat) (v v2:IV),row[o]?=some v→row2[o]?=some v2→G v v2)
  (h2l: ∀id s,H2.loop id=some s→H.loop id=some s) (ha:a2.n=a.n) (hf: ∀t,G (a.get t) (a2.get t))
  (hG: ∀v v2,G v v2→ ∀J S w u,RelH J S H w→RelH J S H1 w→VR J S v u→VR J (allSure J S H1 w) v2 u):Sees a H a2 H2:=by
 intro J S ra w hF hH
 have h1:RelH J S H1 w:=frame_rel hH hsub hn hl
 have hS: ∀x y,S x y→allSure J S H1 w x y:=fun _ _ h=> .inl h
 have hless: ∀{id},H2.has id→H.has id∧H1.get id=none:=by
  rintro id (⟨b,hb⟩|⟨s,hs⟩)
  ·obtain⟨g,b',hb',_⟩:=h2 id b hb
   exact⟨.inl ⟨b',hb'⟩,g⟩
  ·refine⟨.inr ⟨s,h2l id s hs⟩,?_⟩
   cases hc:H1.get id with
   |none=>rfl
   |some c=>
    obtain⟨L,hL,_⟩:=hH.lps id s (h2l id s hs)
    exact absurd rfl (hH.apart (hsub _ _ hc) hL (h2l id s hs) hL)
 refine⟨allSure J S H1 w,⟨hF.glob.mono fun _ _ h=> .inl h,by rw[ha];exact hF.size,fun t=>hG _ _ (hf t) J S w _ hH h1 (hF.val t)⟩,⟨fun id b2 hb2=>?_,fun id id' L L' hb hb'=>hH.inj id id' L L' (hless hb).1 (hless hb').1,?_,by rw[h2n];exact hH.next,fun id s hs=>(by obtain⟨L,hL,hat⟩:=hH.lps id s (h2l id s hs);exact⟨L,hL,hat.mono (fun _ _ h=>h) hS⟩)⟩,⟨fun _ _ h=>h,hS,?_,?_,fun _ _ _=>rfl,Nat.le_refl _,rfl,rfl,rfl,fun _=>Nat.le_of_eq (by rw[h2n]),fun _ r h=>⟨r,h⟩⟩⟩
 ·obtain⟨g,b,hb,e1,e2,e3⟩:=h2 id b2 hb2
  obtain⟨L,hL,hat⟩:=hH.blk id b hb
  refine⟨L,hL,⟨fun rg=>?_,fun rg=>(hat.mp rg).sub e2 fun i r r' hi hi'=>⟨(e3 i r r' hi hi').1,fun o v v' u ho ho' hv=>hG _ _ ((e3 i r r' hi hi').2 o v v' ho ho') J S w u hH h1 hv⟩⟩⟩
  replace hat:=hat.reg rg
  refine⟨hat.E.trans e1.symm,?_,fun i row2 hi=>?_,by rw[e1,e2];exact hat.fit⟩
  ·obtain⟨cs,t,q1,q2,q3⟩:=hat.cell
   refine⟨cs,t,q1,q2,fun i row2 o v2 hi ho=>?_⟩
   have hi':i<b.rows.length:=by rw[←e2];exact(List.getElem?_eq_some_iff.1 hi).1
   obtain⟨l1,l2⟩:=e3 i b.rows[i] row2 (by simp[hi']) hi
   have ho':o<b.rows[i].length:=by rw[←l1];exact(List.getElem?_eq_some_iff.1 ho).1
   obtain⟨u,hu,hv⟩:=q3 i b.rows[i] o b.rows[i][o] (by simp[hi']) (by simp[ho'])
   exact⟨u,by rw[e1];exact hu,hG _ _ (l2 o _ v2 (by simp[ho']) ho) J S w u hH h1 hv⟩
  ·have hi':i<b.rows.length:=by rw[←e2];exact(List.getElem?_eq_some_iff.1 hi).1
   rw[(e3 i b.rows[i] row2 (by simp[hi']) hi).1,e1]
   exact hat.row i _ (by simp[hi'])
 ·rintro x y (h|⟨h,id1,L1,hb1,hL1,hr1⟩)
  ·refine⟨(hH.sure x y h).1,?_⟩
   rintro⟨id,L,hb,hL,hr⟩
   exact(hH.sure x y h).2 ⟨id,L,(hless hb).1,hL,hr⟩
  ·refine⟨h,?_⟩
   rintro⟨id,L,hb,hL,hr⟩
   obtain⟨b1,g1,g2⟩:=has_sub hsub hl hb1
   have:=hH.inj id id1 L L1 (hless hb).1 (.inl ⟨b1,g1⟩) hL hL1 (hr.trans hr1.symm)
   subst this
   rw[(hless hb).2] at g2
   cases g2
 ·rintro x y (h|⟨_,id1,L1,hb1,hL1,hr1⟩)
  ·exact .inl h
  ·obtain⟨b1,g1,g2⟩:=has_sub hsub hl hb1
   exact .inr (.inl ⟨id1,L1,.inl ⟨b1,g1⟩,hL1,hr1⟩)
 ·rintro b ⟨id,L,hb,hL,hr⟩
  exact .inl ⟨id,L,(hless hb).1,hL,hr⟩
inductive Sbs (G:IV→IV→Prop):List IV→List IV→Prop
 |nil:Sbs G [] []
 |s {v:IV} {l l':List IV} (k:Sbs G l l'):Sbs G (v::l) (v::l')
 |x {v r:IV} {l l':List IV} (h:G v r) (k:Sbs G l l'):Sbs G (v::l) (r::l')
 |id {l:List IV}:Sbs G l l
inductive SbF (G:IV→IV→Prop):List (Nat×IV)→List (Nat×IV)→Prop
 |nil:SbF G [] []
 |s {p:Nat×IV} {l l':List (Nat×IV)} (k:SbF G l l'):SbF G (p::l) (p::l')
 |x {t:Nat} {v r:IV} {l l':List (Nat×IV)} (h:G v r) (k:SbF G l l'):SbF G ((t,v)::l) ((t,r)::l')
 |id {l:List (Nat×IV)}:SbF G l l
inductive SbA (G:IV→IV→Prop):List SA→List SA→Prop
 |s {A:SA} {l l':List SA} (k:SbA G l l'):SbA G (A::l) (A::l')
 |r {id:Id} {E:Nat} {row row':List IV} {l l':List SA} (h:Sbs G row row') (k:SbA G l l'):SbA G (pt id ⟨E,[row]⟩::l) (pt id ⟨E,[row']⟩::l')
 |m {id:Id} {E:Nat} {rows rows':List (List IV)} {l l':List SA} (h:rows.length=rows'.length∧ ∀(i:Nat) (a b:List IV),rows[i]?=some a→rows'[i]?=some b→Sbs G a b) (k:SbA G l l'):SbA G (pt id ⟨E,rows⟩::l) (pt id ⟨E,rows'⟩::l')
 |id {l:List SA}:SbA G l l
def refl'(G:IV→IV→Prop):IV→IV→Prop:=fun v r=>v=r∨G v r
theorem Sbs.get{G:IV→IV→Prop}{l l':List IV}(h:Sbs G l l'):l'.length=l.length∧ ∀(o:Nat) (v v2:IV),l[o]?=some v→l'[o]?=some v2→refl' G v v2:=by
 induction h with
 |nil=>exact⟨rfl,fun o v v2 h=>by simp at h⟩
 |id=>exact⟨rfl,fun o v v2 h h'=> .inl (by rw[h] at h';exact Option.some.inj h')⟩
 |s k ih=>
  refine⟨by simp[ih.1],fun o v v2 h1 h2=>?_⟩
  cases o with
  |zero=>simp at h1 h2;subst h1;subst h2;exact .inl rfl
  |succ o=>exact ih.2 o v v2 (by simpa using h1) (by simpa using h2)
 |x h k ih=>
  refine⟨by simp[ih.1],fun o v v2 h1 h2=>?_⟩
  cases o with
  |zero=>simp at h1 h2;subst h1;subst h2;exact .inr h
  |succ o=>exact ih.2 o v v2 (by simpa using h1) (by simpa using h2)
theorem SbF.get{G:IV→IV→Prop}{l l':List (Nat×IV)}(h:SbF G l l')(t:Nat):refl' G (look l t) (look l' t):=by
 induction h with
 |nil=>exact .inl rfl
 |id=>exact .inl rfl
 |s k ih=>
  rename_i p l l'
  obtain⟨q,v⟩:=p
  rw[yN,yN]
  split
  ·exact .inl rfl
  ·exact ih
 |x h k ih=>
  rw[yN,yN]
  split
  ·exact .inr h
  ·exact ih
def Like(G:IV→IV→Prop)(p p':Part):Prop:= ∀id,(p id=none∧p' id=none)∨(∃s,p id=some (.lp s)∧p' id=some (.lp s))∨
 ∃b b2,p id=some (.blk b)∧p' id=some (.blk b2)∧b2.E=b.E∧b2.rows.length=b.rows.length∧ ∀(i:Nat) (row row2:List IV),b.rows[i]?=some row→b2.rows[i]?=some row2→row2.length=row.length∧ ∀(o:Nat) (v v2:IV),row[o]?=some v→row2[o]?=some v2→refl' G v v2
theorem Like.refl{G:IV→IV→Prop}(p:Part):Like G p p:=fun id=>by
 cases h:p id with
 |none=>exact .inl ⟨rfl,rfl⟩
 |some c=>
  cases c with
  |lp s=>exact .inr (.inl ⟨s,rfl,rfl⟩)
  |blk b=>exact .inr (.inr ⟨b,b,rfl,rfl,rfl,rfl,fun i row row2 h1 h2=>by
    rw[h1] at h2;cases h2
    exact⟨rfl,fun o v v2 h h'=>by rw[h] at h';exact .inl (Option.some.inj h')⟩⟩)
theorem Like.dom{G:IV→IV→Prop}{p p':Part}(h:Like G p p')(id:Id):p id=none↔p' id=none:=by
 rcases h id with ⟨h1,h2⟩|⟨s,h1,h2⟩|⟨b,b2,h1,h2,_⟩<;>simp[h1,h2]
theorem Like.join{G:IV→IV→Prop}{p q r p' q':Part}(j:Join p q r)(h:Like G p p')(k:Like G q q'): ∃r',Join p' q' r'∧Like G r r':=by
 refine⟨fun i=>(p' i <|> q' i),fun i=>?_,fun i=>?_⟩
 ·rcases j i with ⟨h1,h2⟩|⟨h1,h2⟩
  ·rw[h.dom] at h1;simp[h1]
  ·rw[k.dom] at h1;refine .inr ⟨h1,?_⟩;cases hp:p' i<;>simp[hp,h1]
 ·rcases j i with ⟨h1,h2⟩|⟨h1,h2⟩
  ·rw[h.dom] at h1
   have:=k i
   simp only[h1,h2]
   simpa using this
  ·rw[k.dom] at h1
   have:=h i
   simp only[h1,h2]
   cases hp:p' i<;>simpa [hp] using this
theorem SbA.like{G:IV→IV→Prop}{L M:List SA}(h:SbA G L M): ∀{p:Part},Sep L p→ ∃p',Sep M p'∧Like G p p':=by
 induction h with
 |id=>exact fun {p} k=>⟨p,k,.refl p⟩
 |s k ih=>
  rintro p ⟨q,r,j,a,b⟩
  obtain⟨r',h1,h2⟩:=ih b
  obtain⟨p',j',h3⟩:=Like.join j (Like.refl (G:=G) q) h2
  exact⟨p',⟨q,r',j',a,h1⟩,h3⟩
 |m h k ih=>
  rename_i i E rows rows' l l'
  rintro p ⟨q,r,j,a,b⟩
  obtain⟨r',h1,h2⟩:=ih b
  have hq:Like G q (fun x=>if x=i then some (.blk ⟨E,rows'⟩) else none):=by
   intro x
   rw[a x]
   by_cases e:x=i
   ·exact .inr (.inr ⟨⟨E,rows⟩,⟨E,rows'⟩,by simp[e],by simp[e],rfl,h.1.symm,fun n r1 r2 e1 e2=>(h.2 n r1 r2 e1 e2).get⟩)
   ·exact .inl ⟨by simp[e],by simp[e]⟩
  obtain⟨p',j',h3⟩:=Like.join j hq h2
  exact⟨p',⟨_,r',j',fun _=>rfl,h1⟩,h3⟩
 |r h k ih=>
  rename_i i E row row' l l'
  rintro p ⟨q,r,j,a,b⟩
  obtain⟨r',h1,h2⟩:=ih b
  have hq:Like G q (fun x=>if x=i then some (.blk ⟨E,[row']⟩) else none):=by
   intro x
   rw[a x]
   by_cases e:x=i
   ·refine .inr (.inr ⟨⟨E,[row]⟩,⟨E,[row']⟩,by simp[e],by simp[e],rfl,rfl,fun n r1 r2 e1 e2=>?_⟩)
    cases n with
    |zero=>simp at e1 e2;subst e1;subst e2;exact h.get
    |succ n=>simp at e1
   ·exact .inl ⟨by simp[e],by simp[e]⟩
  obtain⟨p',j',h3⟩:=Like.join j hq h2
  exact⟨p',⟨_,r',j',fun _=>rfl,h1⟩,h3⟩
def Part.heap(p:Part)(N:Nat→Nat):Heap:={get:=fun id=>match p id with|some (.blk b)=>some b|_=>none,next:=N,loop:=fun id=>match p id with|some (.lp s)=>some s|_=>none}
theorem kf(p:Part)(N:Nat→Nat):(p.heap N).part=p:=by
 funext id
 unfold Heap.part Part.heap
 cases h:p id with
 |none=>simp[h]
 |some c=>cases c<;>simp[h]
section
variable {P:Program} {c:Code} {Q:Exit→Fr→Heap→Prop} {H:Heap} {F:SA} {L:List SA} {N:Nat} {l l':List (Nat×IV)}
theorem U_imm{A:SA}{G:IV→IV→Prop}{M:List SA}(n:Nat)(hs:HS F L H)(hn:L[n]?=some A)(hnl: ∀p,A p→ ∀i s,p i≠some (.lp s))
  (hG: ∀p (H1:Heap),A p→(∀id b,p id=some (.blk b)→H1.get id=some b)→ ∀v r,G v r→Fz H1 v r∨Sub v r) (hl:SbF G l l') (hM:SbA G (L.eraseIdx n) M) (k: ∀H',HS F M H'→W P c Q (fr N l') H'):W P c Q (fr N l) H:=by
 obtain⟨w,h2⟩:=hs
 have kk:=zV (zF h2 (fun _ h=>h) (fun _ h=>zV (zF h (fun _ h=>h) (fun _ h=>zF (yU h hn) (fun _ h=>h) (fun _ h=>yo h)))))
 obtain⟨p,q,j,a,b⟩:=kk
 obtain⟨q1,q2,j2,t1,f1,f2,j3,hf,he⟩:=b
 obtain⟨f2',m1,m2⟩:=hM.like he
 obtain⟨q2',j3',m3⟩:=Like.join j3 (Like.refl (G:=G) f1) m2
 obtain⟨q',j2',m4⟩:=Like.join j2 (Like.refl (G:=G) q1) m3
 have hH':Hwf (Part.heap q' H.next):=by
  refine⟨fun id c hc=>?_,fun id b s hb hs=>?_⟩
  ·rw[kf] at hc
   have: ∃c,q id=some c:=by
    cases hq:q id with
    |some c=>exact⟨c,rfl⟩
    |none=>rw[(m4.dom id).1 hq] at hc;cases hc
   obtain⟨c',hc'⟩:=this
   exact w.lt id c' (j.comm.left hc')
  ·simp only[Part.heap] at hb hs
   split at hb
   ·rename_i b' e;rw[e] at hs;cases hs
   ·cases hb
 have hp1: ∀id b,(Part.heap p H.next).get id=some b↔p id=some (.blk b):=by
  intro id b
  simp only[Part.heap]
  cases h:p id with
  |none=>simp
  |some c=>cases c<;>simp
 have hq1: ∀id b,(Part.heap q' H.next).get id=some b↔q' id=some (.blk b):=by
  intro id b
  simp only[Part.heap]
  cases h:q' id with
  |none=>simp
  |some c=>cases c<;>simp
 refine W_sees (a2:=fr N l') (H2:=Part.heap q' H.next) (sees_gen (H1:=Part.heap p H.next) (G:=refl' G) (fun id b hb=>part_blk.1 (j.left ((hp1 id b).1 hb))) rfl (fun id=>?_) rfl (fun id b2 hb2=>?_) (fun id s hs=>?_) rfl (fun t=>hl.get t) ?_)
  (k _ ⟨hH',by rw[kf];exact⟨q1,q2',j2',trivial,f1,f2',j3',hf,m1⟩⟩)
 ·simp only[Part.heap]
  split
  ·rename_i s e;exact(hnl p a id s e).elim
  ·rfl
 ·have e:=(hq1 id b2).1 hb2
  rcases m4 id with ⟨h1,h2⟩|⟨s,h1,h2⟩|⟨b,b2',h1,h2,h3⟩
  ·rw[e] at h2;cases h2
  ·rw[e] at h2;cases h2
  ·rw[e] at h2;cases h2
   refine⟨?_,b,part_blk.1 (j.comm.left h1),h3⟩
   cases hg:(Part.heap p H.next).get id with
   |none=>rfl
   |some c=>
    have:=(hp1 id c).1 hg
    rcases j id with ⟨x1,x2⟩|⟨x1,x2⟩
    ·rw[x1] at this;cases this
    ·rw[x1] at h1;cases h1
 ·have e:q' id=some (.lp s):=by
   simp only[Part.heap] at hs
   split at hs
   ·rename_i s' e;cases hs;exact e
   ·cases hs
  rcases m4 id with ⟨h1,h2⟩|⟨s',h1,h2⟩|⟨b,b2',h1,h2,h3⟩
  ·rw[e] at h2;cases h2
  ·rw[e] at h2;cases h2
   exact(part_lp w).1 (j.comm.left h1)
  ·rw[e] at h2;cases h2
 ·rintro v r (rfl|hg) J S w u hH h1 hv
  ·exact hv.mono (fun _ _ h=>h) fun _ _ h=> .inl h
  ·rcases hG p (Part.heap p H.next) a (fun id b hb=>(hp1 id b).2 hb) v r hg with h|h
   ·exact(h.sound h1 u hv).mono (fun _ _ h=>by cases h) (fun _ _ h=>h)
   ·exact(h J S u hv).mono (fun _ _ h=>h) fun _ _ h=> .inl h
end
def NL(A:SA):Prop:= ∀p,A p→ ∀i s,p i≠some (.lp s)
theorem NL_pt(id:Id)(b:Blk):NL (pt id b):=fun p h i s e=>by
 rw[h i] at e
 split at e<;>cases e
theorem NL_star{A B:SA}(h:NL A)(k:NL B):NL (star A B):=by
 rintro p ⟨q,r,j,a,b⟩ i s e
 rcases j i with ⟨h1,h2⟩|⟨h1,h2⟩
 ·rw[h2] at e;exact k _ b i s e
 ·rw[h2] at e;exact h _ a i s e
theorem NL_emp:NL emp:=fun p h i s e=>by rw[h i] at e;cases e
theorem NL_zip{α:Type}{f:List IV→α→SA}(h: ∀r x,NL (f r x)): ∀(rows:List (List IV)) (xs:List α),NL (Sep (List.zipWith f rows xs))
 |[],_=>NL_emp
 |_::_,[]=>NL_emp
 |r::rows,x::xs=>NL_star (h r x) (NL_zip h rows xs)
def Rp.nl{α:Type}(R:Rp α):Prop:= ∀r x,NL (R.p r x)
theorem nl_i{α:Type}{f:α→List IV}{n:Nat}{hn: ∀x,(f x).length=n}{hc: ∀x,Cl1 (f x)}:(Ri f n hn hc).nl:=fun r x p h=>NL_emp p h.2
theorem nl_sl{α:Type}{R:Rp α}(h:R.nl)(v:IV)(xs:List α):NL (sl R v xs):=by
 rintro p (⟨_,_,e⟩|⟨id,full,pre,rows,post,_,_,s⟩)
 ·exact NL_emp p e
 ·exact NL_star (NL_pt _ _) (NL_zip h rows xs) p s
theorem nl_s{α:Type}{R:Rp α}(h:R.nl):(Rs R).nl:=by
 intro r x p k
 match r,k with
 |[v],k=>exact nl_sl h v x p k
theorem nl_n{α:Type}:(Rn (α:=α)).nl:=fun r x p h=>NL_emp p h.2
theorem nl_c{α β:Type}{A:Rp β}{f:α→β}{B:Rp α}(h:A.nl)(k:B.nl):(Rc A f B).nl:=by
 rintro r x p ⟨c1,c2,_,s⟩
 exact NL_star (h _ _) (k _ _) p s
def Gv(v r:IV):IV→IV→Prop:=fun a b=>(a=v∧b=r)∨(a= .nils∧b= .sim [] false)
theorem Gv.o{v r:IV}:Gv v r v r:= .inl ⟨rfl,rfl⟩
theorem Gv.n{v r:IV}:Gv v r .nils (.sim [] false):= .inr ⟨rfl,rfl⟩
def Gw(v r:IV):IV→IV→Prop:=fun a b=>Gv v r a b∨ ∃(f:Fn) (n:Nat) (cs:List IV),a= .fn f [] cs∧b= .fn f [] (cs.set n r)∧cs[n]?=some v∧ ∀(m:Nat) (x:IV),m≠n→cs[m]?=some x→closed x
theorem Gw.o{v r:IV}:Gw v r v r:= .inl .o
theorem Gw.n{v r:IV}:Gw v r .nils (.sim [] false):= .inl .n
theorem Gw.f{v r:IV}{f:Fn}(n:Nat){cs cs':List IV}(h:cs[n]?=some v)(e:cs.set n r=cs')(k: ∀x∈cs.eraseIdx n,closed x):Gw v r (.fn f [] cs) (.fn f [] cs'):=by
 subst e
 refine .inr ⟨f,n,cs,rfl,rfl,h,fun m x hm hx=>k x ?_⟩
 rcases Nat.lt_or_gt_of_ne hm with hlt|hlt
 ·exact List.mem_of_getElem? (i:=m) (by rw[List.getElem?_eraseIdx,if_pos hlt];exact hx)
 ·exact List.mem_of_getElem? (i:=m-1) (by rw[List.getElem?_eraseIdx,if_neg (by omega),show m-1+1=m by omega];exact hx)
theorem Gw.fz{v r a b:IV}{H:Heap}(h:Gw v r a b)(k:Fz H v r):Fz H a b∨Sub a b:=by
 rcases h with (⟨rfl,rfl⟩|⟨rfl,rfl⟩)|⟨f,n,cs,rfl,rfl,h1,h2⟩
 ·exact .inl k
 ·exact .inr sub_nils
 ·refine .inl (.fn (by simp) fun m x x' hx hx'=>?_)
  by_cases e:n=m
  ·subst e
   rw[h1] at hx;cases hx
   have hlt:=(List.getElem?_eq_some_iff.1 h1).1
   simp only[List.getElem?_set,hlt,if_true] at hx'
   cases hx';exact k
  ·rw[List.getElem?_set_ne e,hx] at hx'
   cases hx'
   exact .cl (h2 m x (fun e2=>e e2.symm) hx)
section
variable {P:Program} {c:Code} {Q:Exit→Fr→Heap→Prop} {H:Heap} {F:SA} {L M:List SA} {N:Nat} {l l':List (Nat×IV)} {α:Type} {R:Rp α}
theorem U_fzS{v:IV}{xs:List α}(n:Nat)(hs:HS F L H)(hn:L[n]?=some (sl R v xs))(hnl:R.nl)(hl:SbF (Gw v (.sim (xs.map R.e) false)) l l')(hM:SbA (Gw v (.sim (xs.map R.e) false)) (L.eraseIdx n) M)(k: ∀H',HS F M H'→W P c Q (fr N l') H'):W P c Q (fr N l) H:=
 U_imm n hs hn (nl_sl hnl v xs) (fun p H1 a hp v' r' hg=>hg.fz (sl_fz a hp)) hl hM k
theorem U_nils(hs:HS F L H)(hl:SbF (Gv .nils (.sim [] false)) l l')(hM:SbA (Gv .nils (.sim [] false)) L M)(k: ∀H',HS F M H'→W P c Q (fr N l') H'):W P c Q (fr N l) H:=by
 have hs':HS F (emp::L) H:=hs.cons (p:=fun _=>none) (fun _=>rfl) (fun i=> .inl ⟨rfl,rfl⟩) hs.1
 refine U_imm (A:=emp) 0 hs' rfl NL_emp (fun p H1 a hp v' r' hg=>?_) hl hM k
 rcases hg with ⟨rfl,rfl⟩|⟨rfl,rfl⟩<;>exact .inr sub_nils
end
inductive Sbr (G:IV→IV→Prop):List (List IV)→List (List IV)→Prop
 |nil:Sbr G [] []
 |c {a b:List IV} {l l':List (List IV)} (h:Sbs G a b) (k:Sbr G l l'):Sbr G (a::l) (b::l')
theorem Sbr.get{G:IV→IV→Prop}{l l':List (List IV)}(h:Sbr G l l'):l.length=l'.length∧ ∀(i:Nat) (a b:List IV),l[i]?=some a→l'[i]?=some b→Sbs G a b:=by
 induction h with
 |nil=>exact⟨rfl,fun i a b h=>by simp at h⟩
 |c h k ih=>
  refine⟨by simp[ih.1],fun i a b h1 h2=>?_⟩
  cases i with
  |zero=>simp at h1 h2;subst h1;subst h2;exact h
  |succ i=>exact ih.2 i a b (by simpa using h1) (by simpa using h2)
section
variable {P:Program} {c:Code} {Q:Exit→Fr→Heap→Prop} {H:Heap} {F:SA} {L:List SA} {N:Nat} {l:List (Nat×IV)} {α:Type}
theorem SbA.at{G:IV→IV→Prop}{id:Id}{E:Nat}{rows rows':List (List IV)}(h:rows.length=rows'.length∧ ∀(i:Nat) (a b:List IV),rows[i]?=some a→rows'[i]?=some b→Sbs G a b): ∀{L:List SA} {n:Nat},L[n]?=some (pt id ⟨E,rows⟩)→SbA G L (L.set n (pt id ⟨E,rows'⟩))
 |[],n,e=>by simp at e
 |A::L,0,e=>by simp at e;subst e;exact .m h .id
 |A::L,n+1,e=> .s (SbA.at h (by simpa using e))
theorem U_rowsN{f:α→List IV}{m:Nat}{hm: ∀x,(f x).length=m}{hc: ∀x,Cl1 (f x)}{id:Id}{E k:Nat}{rows:List (List IV)}{fl:Bool}(xs:List α)(n:Nat)(hs:HS F L H)(hn:L[n]?=some (pt id ⟨E,rows⟩))(hE:E=m)(hk:k=xs.length)
  (h:rows.length=(xs.map f).length∧ ∀(i:Nat) (a b:List IV),rows[i]?=some a→(xs.map f)[i]?=some b→Sbs (Gv .nils (.sim [] false)) a b) (kk: ∀H',HS F (L.set n (sl (Ri f m hm hc) (.sb id 0 k fl) xs)) H'→W P c Q (fr N l) H'):W P c Q (fr N l) H:=by
 refine U_nils hs .id (SbA.at h hn) fun H' hs'=>kk H' ?_
 have hlt:n<L.length:=(List.getElem?_eq_some_iff.1 hn).1
 have h2:=hs'.turn1 (A:=pt id ⟨E,xs.map f⟩) n (A':=sl (Ri f m hm hc) (.sb id 0 k fl) xs) (by simp[hlt]) fun p a=>by
  have hz: ∀(ys:List α) (q:Part),emp q→Sep (List.zipWith (Ri f m hm hc).p (ys.map f) ys) q:=by
   intro ys
   induction ys with
   |nil=>exact fun q e=>e
   |cons y ys ih=>exact fun q e=>⟨q,q,fun i=> .inl ⟨e i,rfl⟩,⟨rfl,e⟩,ih q e⟩
  subst hE
  refine .inr ⟨id,fl,[],xs.map f,[],by simp[hk],by simp,?_⟩
  have e:[]++xs.map f++[]=xs.map f:=by simp
  rw[e]
  have h3:star (pt id ⟨E,xs.map f⟩) emp p:=star_emp.2 a
  obtain⟨p1,p2,j,a1,a2⟩:=h3
  exact⟨p1,p2,j,a1,hz xs p2 a2⟩
 rw[List.set_set] at h2
 exact h2
end
end Go.Proofs.Ytoojnagdenoknaa.IL
