/- The layer of owned parts, part 3: operations on what is owned; calls. Nothing here speaks of a given program. -/
import Derived.Test.YtoojnagdenoknaaQC
set_option linter.unusedSectionVars false
set_option linter.unnecessarySimpa false
set_option linter.unusedVariables false
set_option linter.unusedSimpArgs false
namespace Go.Proofs.Ytoojnagdenoknaa.IL
open Go Go.RowKit PL
theorem zip_i{α:Type}{f:α→List IV}{m:Nat}{hm: ∀x,(f x).length=m}{hc: ∀x,Cl1 (f x)}: ∀{rows:List (List IV)} {xs:List α} {p:Part},rows.length=xs.length→(Sep (List.zipWith (Ri f m hm hc).p rows xs) p↔rows=xs.map f∧emp p)
 |[],[],p,_=>by simp[Sep]
 |r::rows,x::xs,p,hl=>by
  have ih:=fun p=>zip_i (f:=f) (m:=m) (hm:=hm) (hc:=hc) (rows:=rows) (xs:=xs) (p:=p) (by simpa using hl)
  simp only[List.zipWith_cons_cons,List.map_cons,List.cons.injEq]
  constructor
  ·rintro⟨q,s,j,⟨a1,a2⟩,b⟩
   obtain⟨b1,b2⟩:=(ih s).1 b
   refine⟨⟨a1,b1⟩,fun i=>?_⟩
   rcases j i with ⟨h1,h2⟩|⟨h1,h2⟩
   ·rw[h2];exact b2 i
   ·rw[h2];exact a2 i
  ·rintro⟨⟨rfl,rfl⟩,e⟩
   exact⟨p,p,fun i=> .inl ⟨e i,rfl⟩,⟨rfl,e⟩,(ih p).2 ⟨rfl,e⟩⟩
 |[],_::_,_,hl=>by simp at hl
 |_::_,[],_,hl=>by simp at hl
theorem sl_i{α:Type}{f:α→List IV}{m:Nat}{hm: ∀x,(f x).length=m}{hc: ∀x,Cl1 (f x)}{v:IV}{xs:List α}{p:Part}:sl (Ri f m hm hc) v xs p↔(v= .nils∧xs=[]∧emp p)∨ ∃id full pre post,v= .sb id pre.length xs.length full∧pt id ⟨m,pre++xs.map f++post⟩ p:=by
 constructor
 ·rintro(h|⟨id,full,pre,rows,post,h1,h2,h3⟩)
  ·exact .inl h
  ·refine .inr ⟨id,full,pre,post,h1,?_⟩
   obtain⟨q,s,j,a,b⟩:=h3
   obtain⟨rfl,e⟩:=(zip_i h2).1 b
   have:p=q:=by
    funext i
    rcases j i with ⟨x1,x2⟩|⟨x1,x2⟩
    ·rw[x2,x1];exact e i
    ·exact x2
   rw[this];exact a
 ·rintro(h|⟨id,full,pre,post,h1,h2⟩)
  ·exact .inl h
  ·exact .inr ⟨id,full,pre,xs.map f,post,h1,by simp,star_emp.2 h2 |> fun h=>zF h (fun _ h=>h) (fun _ h=>(zip_i (by simp)).2 ⟨rfl,h⟩)⟩
def At(v:IV)(id:Id)(r j:Nat):Prop:= ∃i len full,v= .sb id i len full∧r=i+j
section rd
variable {P:Program} {F:SA} {L:List SA} {H:Heap} {α:Type} {R:Rp α} {v:IV} {xs:List α}
theorem HS.len{t e:TypeId}{C:TC}(n:Nat)(hs:HS F L H)(hn:L[n]?=some (sl R v xs))(ht:tc P t=some C)(hk:C.kd= .slice e):ilen P t v=some (.int .i64 (xs.length:Int)):=
 hs.fact n hn fun p a=>by rcases a with ⟨rfl,rfl,_⟩|⟨id,full,pre,rows,post,rfl,_⟩<;>simp[ilen,ht,hk]
theorem HS.cf(n:Nat)(hs:HS F L H)(hn:L[n]?=some (sl R v xs)):v.cells=some [v]∧v.one=true:=hs.fact n hn fun p a=>⟨(sl_one a).2,(sl_one a).1⟩
theorem HS.bf{x:α}(n:Nat)(hs:HS F L H)(hn:L[n]?=some (bx R v x)):v.cells=some [v]∧v.one=true:=hs.fact n hn fun p ⟨id,row,e,_⟩=>by subst e;exact⟨rfl,rfl⟩
theorem HS.slb(n:Nat)(hs:HS F L H)(hn:L[n]?=some (sl R v xs)):(v= .nils∧xs=[])∨ ∃id full pre rows post,v= .sb id pre.length xs.length full∧rows.length=xs.length∧H.get id=some ⟨R.E,pre++rows++post⟩∧ ∀r∈rows,r.length=R.E∧ ∀v∈r,v.one=true:=by
 obtain⟨p,q,j,a,_⟩:=hs.out n hn
 rcases a with ⟨h1,h2,_⟩|⟨id,full,pre,rows,post,h1,h2,p1,p2,j2,a,b⟩
 ·exact .inl ⟨h1,h2⟩
 ·exact .inr ⟨id,full,pre,rows,post,h1,h2,part_blk.1 (j.left (j2.left (by rw[a id,if_pos rfl]))),zip_one h2 b⟩
theorem HS.slbi{f:α→List IV}{m:Nat}{hm: ∀x,(f x).length=m}{hc: ∀x,Cl1 (f x)}(n:Nat)(hs:HS F L H)(hn:L[n]?=some (sl (Ri f m hm hc) v xs)):(v= .nils∧xs=[])∨ ∃id full pre post,v= .sb id pre.length xs.length full∧H.get id=some ⟨m,pre++xs.map f++post⟩:=by
 obtain⟨p,q,j,a,_⟩:=hs.out n hn
 rcases sl_i.1 a with ⟨h1,h2,_⟩|⟨id,full,pre,post,h1,a⟩
 ·exact .inl ⟨h1,h2⟩
 ·exact .inr ⟨id,full,pre,post,h1,zzb a j⟩
theorem HS.at{t e:TypeId}{C A:TC}{k:IntKind}{i:Int}{x:α}(n:Nat)(hs:HS F L H)(hn:L[n]?=some (sl R v xs))(ht:tc P t=some C)(hk:C.kd= .slice e)(he:tc P e=some A)(hE:A.size=R.E)(h:idx xs i=some x):
  ∃id r,At v id r i.toNat∧iiaddr P H t v (.int k i)=some (.pb id r 0):=by
 obtain⟨h0,h1,h2⟩:=yn h
 rcases hs.slb n hn with ⟨rfl,rfl⟩|⟨id,full,pre,rows,post,rfl,hl,hg,_⟩
 ·simp at h2
 ·refine⟨id,pre.length+i.toNat,⟨_,_,_,rfl,rfl⟩,?_⟩
  simp only[iiaddr,ht,hk,he,hg]
  rw[if_pos ⟨h0,by omega,hE.symm⟩]
theorem HS.row{f:α→List IV}{m:Nat}{hm: ∀x,(f x).length=m}{hc: ∀x,Cl1 (f x)}{id:Id}{r:Nat}{i:Int}{x:α}(n:Nat)(hs:HS F L H)(hn:L[n]?=some (sl (Ri f m hm hc) v xs))(hat:At v id r i.toNat)(h:idx xs i=some x)(o:Nat):rowOf H (.pb id r o)=some (f x,o):=by
 obtain⟨i0,len,fl,rfl,rfl⟩:=hat
 obtain⟨h0,h1,h2⟩:=yn h
 rcases hs.slbi n hn with ⟨e,_⟩|⟨id',full,pre,post,e,hg⟩
 ·cases e
 ·cases e
  have hlt:i.toNat<xs.length:=(List.getElem?_eq_some_iff.1 h2).1
  simp only[rowOf,hg,Option.bind_some]
  rw[List.append_assoc,List.getElem?_append_right (by omega),List.getElem?_append_left (by simp;omega),List.getElem?_map]
  rw[show pre.length+i.toNat-pre.length=i.toNat by omega,h2]
  rfl
theorem HS.srows{E:Nat}(hE:R.E=E)(n:Nat)(hs:HS F L H)(hn:L[n]?=some (sl R v xs)): ∃rows,srows H E v=some rows∧rows.length=xs.length:=by
 rcases hs.slb n hn with ⟨rfl,rfl⟩|⟨id,full,pre,rows,post,rfl,hl,hg,_⟩
 ·exact⟨[],rfl,rfl⟩
 ·refine⟨rows,?_,hl⟩
  simp only[IL.srows,hg]
  rw[if_pos ⟨hE,by simp;omega⟩]
  simp[←hl]
theorem HS.srowsi{f:α→List IV}{m:Nat}{hm: ∀x,(f x).length=m}{hc: ∀x,Cl1 (f x)}(n:Nat)(hs:HS F L H)(hn:L[n]?=some (sl (Ri f m hm hc) v xs)):IL.srows H m v=some (xs.map f):=by
 rcases hs.slbi n hn with ⟨rfl,rfl⟩|⟨id,full,pre,post,rfl,hg⟩
 ·rfl
 ·simp only[IL.srows,hg]
  rw[if_pos (by simp)]
  simp
end rd
theorem zzC(m:Mo)(d:Nat)(a:Fr)(b:Blk):okM m (some d) a (.new b):=by cases m<;>simp[okM]
section eff
variable {P:Program} {F:SA} {L:List SA} {H:Heap} {α:Type} {R:Rp α} {v:IV} {xs:List α} {m:Mo} {a:Fr} {d ds:Nat} {K:IV→Heap→Prop}
theorem yL{b:Blk}(hs:HS F L H)(hd:a.b+d=ds)(k: ∀id H',HS F (pt id b::L) H'→K (.pb id 0 0) H'):someK m a d (some (.pb ⟨ds,H.next ds⟩ 0 0,.new b)) H K:=by
 subst hd
 exact⟨zzC m d a b,k _ _ (hs.new _ b)⟩
theorem N_lit{b:Blk}{i n:Nat}{fl:Bool}(hs:HS F L H)(hd:a.b+d=ds)(k: ∀id H',HS F (pt id b::L) H'→K (.sb id i n fl) H'):someK m a d (some (.sb ⟨ds,H.next ds⟩ i n fl,.new b)) H K:=by
 subst hd
 exact⟨zzC m d a b,k _ _ (hs.new _ b)⟩
theorem HS.cons'{F:SA}{L:List SA}{H:Heap}{A:SA}(hs:HS F L H)(h: ∀p,emp p→A p):HS F (A::L) H:=hs.cons (p:=fun _=>none) (h _ fun _=>rfl) (fun i=> .inl ⟨rfl,rfl⟩) hs.1
theorem yh{E n:Nat}{rows:List (List IV)}{fl:Bool}(xs:List α)(R:Rp α)(hs:HS F L H)(hd:a.b+d=ds)(hE:E=R.E)(hn:n=xs.length)(hl:rows.length=xs.length)(hr: ∀p,emp p→Sep (List.zipWith R.p rows xs) p)
  (k: ∀v H',HS F (sl R v xs::L) H'→K v H'):someK m a d (some (.sb ⟨ds,H.next ds⟩ 0 n fl,.new ⟨E,rows⟩)) H K:=by
 refine N_lit (i:=0) hs hd fun id H' hs'=>?_
 have h2:=hs'.turn1 0 (A':=sl R (.sb id 0 n fl) xs) rfl fun p a=>by
  refine .inr ⟨id,fl,[],rows,[],by simp[hn],hl,?_⟩
  subst hE
  have a':pt id ⟨R.E,[]++rows++[]⟩ p:=by simpa using a
  exact zF (star_emp.2 a') (fun _ h=>h) hr
 exact k _ _ h2
theorem zi{f:α→List IV}{n:Nat}{hn: ∀x,(f x).length=n}{hc: ∀x,Cl1 (f x)}{rows:List (List IV)}{xs:List α}(h:rows=xs.map f)(p:Part)(e:emp p):Sep (List.zipWith (Ri f n hn hc).p rows xs) p:=(zip_i (by subst h;simp)).2 ⟨h,e⟩
theorem zip_rep{z:List IV}{x:α}(h: ∀p,emp p→R.p z x p): ∀(n:Nat) (p:Part),emp p→Sep (List.zipWith R.p (List.replicate n z) (List.replicate n x)) p
 |0,p,e=>e
 |n+1,p,e=>⟨p,p,fun i=> .inl ⟨e i,rfl⟩,h p e,zip_rep h n p e⟩
theorem kW{id:Id}{b b':Blk}{K:Heap→Prop}(n:Nat)(hs:HS F L H)(hn:L[n]?=some (pt id b))(k: ∀H',HS F (L.set n (pt id b')) H'→K H'):putK (some (.put id b')) H K:=k _ (hs.put n hn b')
theorem N_st{f:α→List IV}{m:Nat}{hm: ∀x,(f x).length=m}{hc: ∀x,Cl1 (f x)}{t:TypeId}{C:TC}{id:Id}{r o:Nat}{i:Int}{x0 y:α}{l:List α}{w:IV}{cs:List IV}{K:Heap→Prop}(n:Nat)(hs:HS F L H)(hn:L[n]?=some (sl (Ri f m hm hc) v xs))(hat:At v id r i.toNat)(h:idx xs i=some x0)
  (ht:tc P t=some C) (hcs:w.cells=some cs) (h1:cs.length=C.size) (h2:o+cs.length≤(f x0).length) (h3: ∀x∈cs,x.one=true) (hy:splice (f x0) o cs=f y) (ks:setI xs i y=some l)
  (k: ∀H',HS F (L.set n (sl (Ri f m hm hc) v l)) H'→K H'):putK (istore P H t (.pb id r o) w) H K:=by
 have hrow:=hs.row n hn hat h o
 obtain⟨i0,len,fl,rfl,rfl⟩:=hat
 obtain⟨p,q,j,aa,kk,_⟩:=hs.out n hn
 obtain⟨g0,g1,g2⟩:=yn h
 rcases sl_i.1 aa with ⟨e,_⟩|⟨id',full,pre,post,e,a⟩
 ·cases e
 ·cases e
  have hg:=zzb a j
  have hlt:i.toNat<xs.length:=(List.getElem?_eq_some_iff.1 g2).1
  have hr:(pre++xs.map f++post)[pre.length+i.toNat]?=some (f x0):=by
   simp only[rowOf,hg,Option.bind_some,Option.map_eq_some_iff] at hrow
   obtain⟨r,h1,h2⟩:=hrow
   rw[h1];cases h2;rfl
  simp only[istore,ht,hcs,hg,hr]
  rw[if_pos ⟨h1,h2,h3⟩]
  refine k _ (kk _ _ _ ?_ (join_put a j) (hs.1.put hg))
  have el:l=xs.set i.toNat y:=set_facts ks
  subst el
  refine sl_i.2 (.inr ⟨id,fl,pre,post,by simp,fun q=>?_⟩)
  rw[hy]
  have:(pre++xs.map f++post).set (pre.length+i.toNat) (f y)=pre++(xs.set i.toNat y).map f++post:=by
   rw[List.append_assoc,List.set_append_right _ _ (by omega),List.set_append_left _ _ (by simp;omega),List.map_set,List.append_assoc]
   congr 3;omega
  rw[this]
def slq(R:Rp α)(v:IV)(xs:List α)(rows:List (List IV)):SA:=fun h=>
 (rows=[]∧sl R v xs h)∨ ∃id full rows0,v= .sb id 0 (xs.length+rows.length) full∧rows0.length=xs.length∧star (pt id ⟨R.E,rows0++rows⟩) (Sep (List.zipWith R.p rows0 xs)) h
theorem slq_fold{rows:List (List IV)}{ys:List α}(hl:rows.length=ys.length){p:Part}(h:star (slq R v xs rows) (Sep (List.zipWith R.p rows ys)) p):sl R v (xs++ys) p:=by
 obtain⟨p1,p2,j,a,b⟩:=h
 rcases a with ⟨rfl,a⟩|⟨id,full,rows0,rfl,h0,a⟩
 ·have:ys=[]:=List.length_eq_zero_iff.1 (by simpa using hl.symm)
  subst this
  have hp:p=p1:=by
   funext i
   rcases j i with ⟨x1,x2⟩|⟨x1,x2⟩
   ·rw[x2,x1];exact b i
   ·exact x2
  rw[hp];simpa using a
 ·refine .inr ⟨id,full,[],rows0++rows,[],by simp[hl],by simp[h0,hl],?_⟩
  rw[List.zipWith_append h0]
  have k:star (star (pt id ⟨R.E,rows0++rows⟩) (Sep (List.zipWith R.p rows0 xs))) (Sep (List.zipWith R.p rows ys)) p:=⟨p1,p2,j,a,b⟩
  have k2:=zF (zy k) (fun _ h=>h) (fun _ h=>Sep_append.2 h)
  simpa using k2
theorem N_appq{t tx e e':TypeId}{C C' A:TC}{zs:List IV}{s x:IV}{E:Nat}{rows:List (List IV)}(n:Nat)(hs:HS F L H)(hn:L[n]?=some (sl R s xs))(hd:a.b+d=ds)
  (ht:tc P t=some C) (hk:C.kd= .slice e) (htx:tc P tx=some C') (hk':C'.kd= .slice e') (he:tc P e=some A) (hz:A.zero=some zs) (hE:A.size=R.E) (h1:zs.length=A.size) (hB:A.bytes≤32768) (hE':A.size=E)
  (hx:IL.srows H E x=some rows) (h2:xs.length+rows.length≤4294967296) (h4: ∀r∈rows,∀v∈r,v.one=true)
  (hm: ∀s0 p0,m=some (s0,p0)→ ∀id i len full,s= .sb id i len full→ ∀x∈p0,ment (a.ev x) id=false)
  (k: ∀v H',HS F (slq R v xs rows::L.eraseIdx n) H'→K v H'):someK m a d (iapp P H ds t tx s x) H K:=by
 subst hE'
 subst hd
 have hb2:(xs.length+rows.length)*A.bytes≤140737488355328:=Nat.le_trans (Nat.mul_le_mul h2 hB) (by decide)
 obtain⟨old,ho,hol⟩:=hs.srows hE.symm n hn
 have hcond:zs.length=A.size∧(old.length+rows.length)*A.bytes≤140737488355328∧old.length+rows.length≤140737488355328∧ ∀r∈rows,∀v∈r,v.one=true:=⟨h1,by rw[hol];exact hb2,by omega,h4⟩
 by_cases hn0:rows.length=0
 ·have:rows=[]:=List.length_eq_zero_iff.1 hn0
  subst this
  simp only[iapp,ht,htx,hk,hk',he,hz,hx,ho]
  rw[if_pos hn0]
  refine⟨by cases m<;>simp[okM],k _ _ ?_⟩
  have:=hs.turn (M:=[slq R s xs []]) n hn fun p a=>star_emp.2 (.inl ⟨rfl,a⟩)
  exact this
 ·obtain⟨o,hs⟩:=hs.ex (ι:=Option (Id×Bool×List (List IV)×List (List IV)×List (List IV))) (B:=fun o p=>match o with
   |none=>s= .nils∧xs=[]∧emp p
   |some (id,full,pre,rows,post)=>(s= .sb id pre.length xs.length full∧rows.length=xs.length)∧star (pt id ⟨R.E,pre++rows++post⟩) (Sep (List.zipWith R.p rows xs)) p) n hn (fun p a=>by
    rcases a with h|⟨id,full,pre,rows,post,h1,h2,h3⟩
    ·exact⟨none,h⟩
    ·exact⟨some (id,full,pre,rows,post),⟨h1,h2⟩,h3⟩)
  have hlt:n<L.length:=(List.getElem?_eq_some_iff.1 hn).1
  have hn': ∀A:SA,(L.set n A)[n]?=some A:=fun A=>by simp[hlt]
  rcases o with _|⟨id,full,pre,rows0,post⟩
  ·obtain⟨rfl,rfl⟩:s= .nils∧xs=[]:=hs.fact n (hn' _) fun p a=>⟨a.1,a.2.1⟩
   have e0:old=[]:=List.length_eq_zero_iff.1 (by simpa using hol)
   subst e0
   simp only[iapp,ht,htx,hk,hk',he,hz,hx,ho]
   rw[if_neg hn0,if_pos hcond]
   refine⟨zzC _ _ _ _,k _ _ ?_⟩
   have hs3:=(hs.drop n (hn' _)).new (a.b+d) ⟨A.size,rows⟩
   rw[List.eraseIdx_set_eq] at hs3
   refine hs3.mono (fun _ h=>h) fun p h=>zF h (fun _ h=>?_) (fun _ h=>h)
   refine .inr ⟨⟨a.b+d,H.next (a.b+d)⟩,false,[],by simp,rfl,?_⟩
   rw[←hE]
   exact star_emp.2 h
  ·obtain⟨rfl,hl⟩:s= .sb id pre.length xs.length full∧rows0.length=xs.length:=hs.fact n (hn' _) fun p a=>a.1
   have hs2:=(hs.turn1 n (hn' _) (A':=star (pt id ⟨R.E,pre++rows0++post⟩) (Sep (List.zipWith R.p rows0 xs))) fun p a=>a.2)
   rw[List.set_set] at hs2
   have hs3:=hs2.two n (hn' _)
   rw[List.eraseIdx_set_eq] at hs3
   have hg:=hs3.pt 0 rfl
   have hold:old=rows0:=by
    simp only[IL.srows,hg] at ho
    rw[if_pos ⟨hE.symm,by simp;omega⟩] at ho
    simp[←hl] at ho
    exact ho.symm
   subst hold
   have fin: ∀(id':Id) (fl:Bool) (p:Part),star (pt id' ⟨A.size,old++rows⟩) (Sep (List.zipWith R.p old xs)) p→slq R (.sb id' 0 (old.length+rows.length) fl) xs rows p:=by
    intro id' fl p h
    refine .inr ⟨id',fl,old,by rw[hol],hol,?_⟩
    rw[←hE];exact h
   cases full with
   |true=>
    simp only[iapp,ht,htx,hk,hk',he,hz,hx,ho]
    rw[if_neg hn0,if_pos hcond]
    refine⟨zzC _ _ _ _,k _ _ ?_⟩
    have hs4:=(hs3.drop 0 rfl).new (a.b+d) ⟨A.size,old++rows⟩
    exact hs4.join (fin _ _)
   |false=>
    simp only[iapp,ht,htx,hk,hk',he,hz,hx,ho]
    rw[if_neg hn0,if_pos hcond]
    refine⟨?_,k _ _ ?_⟩
    ·cases m with
     |none=>trivial
     |some p=>exact⟨rfl,hm p.1 p.2 rfl _ _ _ _ rfl⟩
    ·have hs4:=hs3.move 0 rfl (a.b+d) ⟨A.size,old++rows⟩
     exact HS.join (by simpa using hs4) (fin _ _)
theorem kw{f:α→List IV}{mm:Nat}{hmm: ∀x,(f x).length=mm}{hc: ∀x,Cl1 (f x)}{t tx e e':TypeId}{C C' A:TC}{zs:List IV}{s x:IV}{E:Nat}{ys l:List α}(n:Nat)(hs:HS F L H)(hn:L[n]?=some (sl (Ri f mm hmm hc) s xs))(hd:a.b+d=ds)
  (ht:tc P t=some C) (hk:C.kd= .slice e) (htx:tc P tx=some C') (hk':C'.kd= .slice e') (he:tc P e=some A) (hz:A.zero=some zs) (hE:A.size=mm) (h1:zs.length=A.size) (hB:A.bytes≤32768) (hE':A.size=E)
  (hx:IL.srows H E x=some (ys.map f)) (ha:PL.app xs ys=some l)
  (hm: ∀s0 p0,m=some (s0,p0)→ ∀id i len full,s= .sb id i len full→ ∀x∈p0,ment (a.ev x) id=false)
  (k: ∀v H',HS F (sl (Ri f mm hmm hc) v l::L.eraseIdx n) H'→K v H'):someK m a d (iapp P H ds t tx s x) H K:=by
 obtain⟨e1,e2⟩:=app_facts ha
 subst e1
 refine N_appq n hs hn hd ht hk htx hk' he hz hE h1 hB hE' hx (by simpa using e2) (ones hc ys) hm fun v H' hs'=>k v H' ?_
 refine hs'.mono (fun _ h=>h) fun p h=>zF h (fun _ h=>?_) (fun _ h=>h)
 exact slq_fold (by simp) (zF (star_emp.2 h) (fun _ h=>h) fun p h=>zi rfl p h)
end eff
end Go.Proofs.Ytoojnagdenoknaa.IL
