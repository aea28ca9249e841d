/- The layer of owned parts, part 5: maps that own what they have. Nothing here speaks of a given program. -/
import Derived.Test.YtoojnagdenoknaaQU
import Derived.Test.YtoojnagdenoknaaPM
import Derived.Test.YtoojnagdenoknaaIL21
set_option linter.unusedSectionVars false
set_option linter.unnecessarySimpa false
set_option linter.unusedVariables false
set_option linter.unusedSimpArgs false
namespace Go.Proofs.Ytoojnagdenoknaa.IL
open Go Go.RowKit PL
def mo{γ:Type}(R:Rp γ)(v:IV)(m:List γ):SA:=fun h=> ∃id rows,(v= .mp id∧rows.length=m.length)∧star (pt id ⟨2,rows⟩) (Sep (List.zipWith R.p rows m)) h
theorem mo_one{γ:Type}{R:Rp γ}{v:IV}{m:List γ}{h:Part}(k:mo R v m h):v.one=true∧v.cells=some [v]:=by
 obtain⟨id,rows,⟨rfl,_⟩,_⟩:=k;exact⟨rfl,rfl⟩
theorem mo_fz{γ:Type}{R:Rp γ}{v:IV}{m:List γ}{h:Part}{H:Heap}(k:mo R v m h)(hg: ∀id b,h id=some (.blk b)→H.get id=some b):Fz H v (.mim (m.map R.e)):=by
 obtain⟨id,rows,⟨rfl,hl⟩,p,q,j,a,b⟩:=k
 have hb:H.get id=some ⟨2,rows⟩:=hg id _ (j.left (by rw[a id,if_pos rfl]))
 have key:=zip_fz hl b (fun i c hc=>hg i c (j.comm.left hc))
 have hx: ∀(r:Nat) (row':List IV),(m.map R.e)[r]?=some row'→ ∃x,m[r]?=some x∧row'=R.e x:=by
  intro r row' h
  rw[List.getElem?_map,Option.map_eq_some_iff] at h
  obtain⟨x,h1,h2⟩:=h
  exact⟨x,h1,h2.symm⟩
 refine .mp hb (by simp[hl]) (fun r row row' h1 h2=>?_) (fun r row row' c v v' h1 h2 h3 h4=>?_)
 ·obtain⟨x,hx1,rfl⟩:=hx r row' h2
  exact(key r row x h1 hx1).at.1
 ·obtain⟨x,hx1,rfl⟩:=hx r row' h2
  exact(key r row x h1 hx1).at.2 c v v' h3 h4
def Rm{γ:Type}(R:Rp γ):Rp (List γ) where
 E:=1
 p:=fun cs x=>match cs with|[v]=>mo R v x|_=>fun _=>False
 e:=eM R.e
 one:=fun {cs x h} k=>by
  match cs,k with
  |[v],k=>exact⟨rfl,fun w hw=>by simp at hw;subst hw;exact(mo_one k).1⟩
 fz:=fun {cs x h H} k hg=>by
  match cs,k with
  |[v],k=>exact .cons (mo_fz k hg) .nil
 cl:=cl_eM R.cl
def KE{κ:Type} [DecidableEq κ] (ek:κ→IV):Prop:= ∀a b,ikey (ek a) (ek b)=some (decide (a=b))
def KR{κ β:Type}(ek:κ→IV)(R:Rp (κ×β)):Prop:= ∀(row:List IV) (x:κ×β) (h:Part),R.p row x h→ ∃c,row=[ek x.1,c]
theorem zzf(q:IntKind):KE (fun k:Int=> .int q k):=fun a b=>by
 simp only[ikey,if_true];congr 1
section
variable {P:Program} {F:SA} {L:List SA} {H:Heap} {κ β:Type} [DecidableEq κ] {ek:κ→IV} {R:Rp (κ×β)} {v:IV} {m:List (κ×β)} {k:κ} {t kt et:TypeId}
theorem zip_find(hk:KE ek)(hr:KR ek R): ∀(m:List (κ×β)) (rows:List (List IV)) (i:Nat) (h:Part),rows.length=m.length→Sep (List.zipWith R.p rows m) h→
  (mget m k=none∧ifind (ek k) rows i=some none∧ ∀x,mset m k x=m++[(k,x)])∨ ∃j x c,mget m k=some x∧ifind (ek k) rows i=some (some (i+j,c))∧rows[j]?=some [ek k,c]∧m[j]?=some (k,x)∧ ∀y,mset m k y=m.set j (k,y)
 |[],rows,i,h,hl,s=>by
  have:rows=[]:=List.length_eq_zero_iff.1 hl
  subst this
  exact .inl ⟨rfl,rfl,fun _=>rfl⟩
 |p::m,[],i,h,hl,s=>by simp at hl
 |p::m,row::rows,i,h,hl,s=>by
  obtain⟨h1,h2,j,a,b⟩:=s
  obtain⟨c,rfl⟩:=hr _ _ _ a
  unfold mget ifind
  rw[hk]
  by_cases e:k=p.1
  ·subst e
   simp only[decide_true,if_true]
   exact .inr ⟨0,p.2,c,rfl,rfl,rfl,rfl,fun y=>by unfold mset;rw[if_pos rfl];rfl⟩
  ·simp only[e,decide_false,if_false]
   rcases zip_find hk hr m rows (i+1) h2 (by simpa using hl) b with ⟨q1,q2,q3⟩|⟨j',x,c',q1,q2,q3,q4,q5⟩
   ·exact .inl ⟨q1,q2,fun x=>by unfold mset;rw[if_neg e,q3];rfl⟩
   ·exact .inr ⟨j'+1,x,c',q1,by rw[q2];congr 3;omega,q3,q4,fun y=>by unfold mset;rw[if_neg e,q5];rfl⟩
theorem HS.mrows(n:Nat)(hs:HS F L H)(hn:L[n]?=some (mo R v m)): ∃id rows h,v= .mp id∧rows.length=m.length∧H.get id=some ⟨2,rows⟩∧Sep (List.zipWith R.p rows m) h:=by
 obtain⟨p,q,j,⟨id,rows,⟨rfl,hl⟩,p1,p2,j2,a,b⟩,_⟩:=hs.out n hn
 exact⟨id,rows,p2,rfl,hl,part_blk.1 (j.left (j2.left (by rw[a id,if_pos rfl]))),b⟩
theorem HS.mnone{z:IV}(n:Nat)(hs:HS F L H)(hn:L[n]?=some (mo R v m))(hk:KE ek)(hr:KR ek R)(hm:mkeyOk P t=some (kt,et))(hz:izeroV P et=some z)(h:mget m k=none):ilook P H t v (ek k) false=some z:=by
 obtain⟨id,rows,h1,rfl,hl,hg,s⟩:=hs.mrows n hn
 rcases zip_find (k:=k) hk hr m rows 0 h1 hl s with ⟨_,q2,_⟩|⟨_,_,_,q1,_⟩
 ·simp only[ilook,hm,irowsM,hg,Option.map_some,q2,hz,Bool.false_eq_true,if_false]
 ·rw[h] at q1;cases q1
def mh{κ β:Type} [DecidableEq κ] (R:Rp (κ×β))(v:IV)(m:List (κ×β))(k:κ)(row:List IV):SA:=fun h=>
 ∃id rows j x,(v= .mp id∧rows.length=m.length∧rows[j]?=some row∧m[j]?=some (k,x)∧(∀y,mset m k y=m.set j (k,y))∧ ∃(i:IV) (c:IV),row=[i,c]∧ifind i rows 0=some (some (j,c)))∧star (pt id ⟨2,rows⟩) (Sep ((List.zipWith R.p rows m).set j emp)) h
theorem HS.mopen{x:β}(n:Nat)(hs:HS F L H)(hn:L[n]?=some (mo R v m))(hk:KE ek)(hr:KR ek R)(h:mget m k=some x): ∃row,HS F (mh R v m k row::R.p row (k,x)::L.eraseIdx n) H:=by
 have hlt:n<L.length:=(List.getElem?_eq_some_iff.1 hn).1
 have hnn: ∀A:SA,(L.set n A)[n]?=some A:=fun A=>by simp[hlt]
 obtain⟨row,hs2⟩:=hs.ex (ι:=List IV) (B:=fun row=>star (mh R v m k row) (R.p row (k,x))) n hn (fun p a=>by
  obtain⟨id,rows,⟨rfl,hl⟩,s⟩:=a
  obtain⟨p1,p2,j2,a1,b1⟩:=s
  rcases zip_find (k:=k) hk hr m rows 0 p2 hl b1 with ⟨q1,_⟩|⟨j,y,c,q1,q2,q3,q4,q5⟩
  ·rw[h] at q1;cases q1
  ·rw[h] at q1;cases q1
   have hz:(List.zipWith R.p rows m)[j]?=some (R.p [ek k,c] (k,x)):=by
    rw[List.getElem?_zipWith,q3,q4]
   refine⟨[ek k,c],?_⟩
   have s2:star (IL.pt id ⟨2,rows⟩) (star (Sep ((List.zipWith R.p rows m).set j emp)) (R.p [ek k,c] (k,x))) p:=⟨p1,p2,j2,a1,zv (yU b1 hz)⟩
   have q2':ifind (ek k) rows 0=some (some (j,c)):=by rw[q2,Nat.zero_add]
   exact zF (yA s2) (fun q h=>⟨id,rows,j,x,⟨rfl,hl,q3,q4,q5,_,c,rfl,q2'⟩,h⟩) (fun _ h=>h))
 have hs3:=hs2.two n (hnn _)
 rw[List.eraseIdx_set_eq] at hs3
 exact⟨row,hs3⟩
theorem HS.mlook{i c:IV}(n:Nat)(hs:HS F L H)(hn:L[n]?=some (mh R v m k [i,c]))(hm:mkeyOk P t=some (kt,et)):ilook P H t v i false=some c:=by
 obtain⟨p,q,j,⟨id,rows,j1,x,⟨rfl,hl,q3,q4,q5,i',c',e,q2⟩,p1,p2,j2,a,b⟩,_⟩:=hs.out n hn
 cases e
 have hg:H.get id=some ⟨2,rows⟩:=part_blk.1 (j.left (j2.left (by rw[a id,if_pos rfl])))
 simp only[ilook,hm,irowsM,hg,Option.map_some,q2,Bool.false_eq_true,if_false]
theorem fold_mh{row:List IV}{y:β}(p:Part)(h:star (mh R v m k row) (R.p row (k,y)) p):mo R v (mset m k y) p:=by
 obtain⟨p1,p2,j,⟨id,rows,i,x,⟨rfl,hl,q3,q4,q5,_⟩,s⟩,b⟩:=h
 have hi:i<rows.length:=(List.getElem?_eq_some_iff.1 q3).1
 have s2:star (pt id ⟨2,rows⟩) (star (Sep ((List.zipWith R.p rows m).set i emp)) (R.p row (k,y))) p:=zy ⟨p1,p2,j,s,b⟩
 refine⟨id,rows,⟨rfl,by rw[q5];simp[hl]⟩,zF s2 (fun _ h=>h) fun q h=>?_⟩
 have e:List.zipWith R.p rows (m.set i (k,y))=(List.zipWith R.p rows m).set i (R.p row (k,y)):=by
  apply List.ext_getElem?
  intro r
  by_cases hr:i=r
  ·subst hr
   rw[List.getElem?_zipWith,q3,List.getElem?_set_self (by rw[←hl];exact hi),List.getElem?_set_self (by simp[←hl,hi])]
  ·rw[List.getElem?_zipWith,List.getElem?_set_ne hr,List.getElem?_set_ne hr,List.getElem?_zipWith]
 rw[q5,e]
 exact zzi (zv h) (by simp[←hl,hi])
theorem N_map{m':Mo}{a:Fr}{d ds:Nat}{K:IV→Heap→Prop}(R:Rp (κ×β))(hs:HS F L H)(hd:a.b+d=ds)(k: ∀w H',HS F (mo R w []::L) H'→K w H'):someK m' a d (some (.mp ⟨ds,H.next ds⟩,.new ⟨2,[]⟩)) H K:=by
 subst hd
 refine⟨zzC m' d a _,k _ _ ((hs.new _ _).turn1 0 (A':=mo R _ []) rfl fun p h=>⟨_,[],⟨rfl,rfl⟩,star_emp.2 h⟩)⟩
theorem HS.mput{A:SA}{w:IV}{x:β}(hs:HS F (mo R v m::A::L) H)(hk:KE ek)(hr:KR ek R)(hf: ∀p,A p→R.p [ek k,w] (k,x) p)(hm:mkeyOk P t=some (kt,et)):
  ∃id b,imput P H t v (ek k) w=some (.put id b)∧HS F (mo R v (mset m k x)::L) (H.put id b):=by
 obtain⟨⟨id,rows⟩,hs2⟩:=hs.ex (ι:=Id×List (List IV)) (B:=fun o=>fun h=>(v= .mp o.1∧o.2.length=m.length)∧star (IL.pt o.1 ⟨2,o.2⟩) (Sep (List.zipWith R.p o.2 m)) h) 0 rfl (fun p a=>by
  obtain⟨id,rows,h1,h2⟩:=a
  exact⟨(id,rows),h1,h2⟩)
 obtain⟨rfl,hl⟩:v= .mp id∧rows.length=m.length:=hs2.fact 0 rfl fun p a=>a.1
 have hs3:=hs2.turn (M:=[IL.pt id ⟨2,rows⟩,Sep (List.zipWith R.p rows m)]) 0 rfl fun p a=>zF a.2 (fun _ h=>h) fun _ h=>star_emp.2 h
 have hs3:HS F (IL.pt id ⟨2,rows⟩::Sep (List.zipWith R.p rows m)::A::L) H:=hs3
 have hg:=hs3.pt 0 rfl
 obtain⟨p,q,j,b,_⟩:=hs3.out 1 rfl
 rcases zip_find (k:=k) hk hr m rows 0 p hl b with ⟨q1,q2,q3⟩|⟨i,y,c,q1,q2,q3,q4,q5⟩
 ·refine⟨id,⟨2,rows++[[ek k,w]]⟩,by simp only[imput,hm,hg,q2],?_⟩
  have h4:=hs3.put 0 rfl ⟨2,rows++[[ek k,w]]⟩
  refine HS.head (L:=[IL.pt id ⟨2,rows++[[ek k,w]]⟩,Sep (List.zipWith R.p rows m),A]) (N:=[mo R (.mp id) (mset m k x)]) h4 fun p h=>star_emp.2 ⟨id,_,⟨rfl,by rw[q3];simp[hl]⟩,zF h (fun _ h=>h) fun p h=>?_⟩
  rw[q3,List.zipWith_append hl]
  exact Sep_append.2 (zF h (fun _ h=>h) fun p h=>zF h (fun p h=>hf p h) (fun _ h=>h))
 ·refine⟨id,⟨2,rows.set i [ek k,w]⟩,by simp only[imput,hm,hg,q2,Nat.zero_add],?_⟩
  have h4:=hs3.put 0 rfl ⟨2,rows.set i [ek k,w]⟩
  have hz:(List.zipWith R.p rows m)[i]?=some (R.p [ek k,c] (k,y)):=by rw[List.getElem?_zipWith,q3,q4]
  have h5:=h4.turnT (A':=Sep ((List.zipWith R.p rows m).set i emp)) 1 rfl fun p h=>zF (yU h hz) (fun _ _=>trivial) (fun _ h=>h)
  have hi:i<rows.length:=(List.getElem?_eq_some_iff.1 q3).1
  refine HS.head (L:=[Sep ((List.zipWith R.p rows m).set i emp),IL.pt id ⟨2,rows.set i [ek k,w]⟩,A]) (N:=[mo R (.mp id) (mset m k x)]) h5 fun p h=>star_emp.2 ⟨id,_,⟨rfl,by rw[q5];simp[hl]⟩,zF (zV h) (fun _ h=>h) fun p h=>?_⟩
  have e:List.zipWith R.p (rows.set i [ek k,w]) (m.set i (k,x))=(List.zipWith R.p rows m).set i (R.p [ek k,w] (k,x)):=by
   apply List.ext_getElem?
   intro r
   by_cases hr:i=r
   ·subst hr
    rw[List.getElem?_zipWith,List.getElem?_set_self hi,List.getElem?_set_self (by rw[←hl];exact hi),List.getElem?_set_self (by simp[←hl,hi])]
   ·rw[List.getElem?_zipWith,List.getElem?_set_ne hr,List.getElem?_set_ne hr,List.getElem?_set_ne hr,List.getElem?_zipWith]
  rw[q5,e]
  exact zzi (zF (zv h) (fun p h=>hf p (star_emp.1 h)) (fun _ h=>h)) (by simp[←hl,hi])
end
theorem fc_m{α γ:Type}{M:List SA}{B:Rp α}{c2:List IV}{x:α}{R:Rp γ}{g:α→List γ}{w:IV}(k: ∀p,Sep M p→B.p c2 x p)(p:Part)(h:Sep (mo R w (g x)::M) p):(Rc (Rm R) g B).p ([w]++c2) x p:=⟨_,_,rfl,zF h (fun _ h=>h) k⟩
theorem HS.cfm{γ:Type}{F:SA}{L:List SA}{H:Heap}{R:Rp γ}{v:IV}{m:List γ}(n:Nat)(hs:HS F L H)(hn:L[n]?=some (mo R v m)):v.cells=some [v]∧v.one=true:=hs.fact n hn fun p a=>⟨(mo_one a).2,(mo_one a).1⟩
theorem mkey{P:Program}{t kt et:TypeId}{C K:TC}{q:IntKind}(h:tc P t=some C)(hk:C.kd= .map kt et)(h2:tc P kt=some K)(hk2:K.kd= .int q):mkeyOk P t=some (kt,et):=by simp[mkeyOk,h,hk,h2,hk2]
theorem kr_c{κ β:Type}{ek:κ→IV}{hn: ∀x:κ×β,[ek x.1].length=1}{hc: ∀x:κ×β,Cl1 [ek x.1]}{B:Rp (κ×β)}(hB:B.E=1):KR ek (Rc (Ri (fun x:κ×β=>[ek x.1]) 1 hn hc) (fun x=>x) B):=by
 rintro row x h ⟨c1,c2,rfl,p,q,j,a,b⟩
 obtain⟨h1,_⟩:=B.one b
 obtain⟨rfl,_⟩:=a
 rw[hB] at h1
 match c2,h1 with
 |[c],_=>exact⟨c,rfl⟩
def KP{κ β:Type}(R:Rp (κ×β)):Prop:= ∀row x h,R.p row x h→ ∃i id a b,row=[i,.pb id a b]
theorem kp_c{κ β γ:Type}{ek:κ→IV}{hn: ∀x:κ×β,[ek x.1].length=1}{hc: ∀x:κ×β,Cl1 [ek x.1]}{R':Rp γ}{g:κ×β→γ}:KP (Rc (Ri (fun x:κ×β=>[ek x.1]) 1 hn hc) (fun x=>x) (Rc (Rb R') g Rn)):=by
 rintro row x h ⟨c1,c2,rfl,p,q,j,a,c3,c4,rfl,p',q',j',a',b'⟩
 obtain⟨rfl,_⟩:=a
 obtain⟨rfl,_⟩:=b'
 match c3,a' with
 |[w],⟨id,r,e,_⟩=>subst e;exact⟨_,id,0,0,rfl⟩
def lkv(P:Program)(H:Heap)(t:TypeId)(v k:IV):IV:=(ilook P H t v k false).getD .junk
section
variable {P:Program} {F:SA} {L:List SA} {H:Heap} {κ β:Type} [DecidableEq κ] {ek:κ→IV} {R:Rp (κ×β)} {v:IV} {m:List (κ×β)} {k:κ} {t kt et e':TypeId} {E:TC}
theorem mhas_t(h:some (mhas m k)=some true): ∃x,mget m k=some x:=by
 unfold mhas at h
 exact Option.isSome_iff_exists.1 (Option.some.inj h)
theorem mhas_f(h:some (mhas m k)=some false):mget m k=none:=by
 unfold mhas at h
 simpa using Option.some.inj h
theorem HS.mhas0{z:IV}(n:Nat)(hs:HS F L H)(hn:L[n]?=some (mo R v m))(hk:KE ek)(hr:KR ek R)(hm:mkeyOk P t=some (kt,et))(hz:izeroV P et=some z)(h:some (mhas m k)=some false):ilook P H t v (ek k) false=some z:=hs.mnone n hn hk hr hm hz (mhas_f h)
theorem HS.mhas1(n:Nat)(hs:HS F L H)(hn:L[n]?=some (mo R v m))(hk:KE ek)(hr:KR ek R)(hp:KP R)(hm:mkeyOk P t=some (kt,et))(ht:tc P et=some E)(hke:E.kd= .pointer e')(h:some (mhas m k)=some true):
  ilook P H t v (ek k) false=some (lkv P H t v (ek k))∧(∀c,ibin P .eql et (lkv P H t v (ek k)) .nilp c=some (.bool false))∧ ∀c,ibin P .neq et (lkv P H t v (ek k)) .nilp c=some (.bool true):=by
 obtain⟨x,hx⟩:=mhas_t h
 obtain⟨row,hs2⟩:=hs.mopen n hn hk hr hx
 obtain⟨i,id,a,b,rfl⟩:=hs2.fact 1 rfl fun p q=>hp _ _ _ q
 obtain⟨c,e⟩:=hs2.fact 1 rfl fun p q=>hr _ _ _ q
 obtain⟨rfl,_⟩:i=ek k∧_:=by
  simp only[List.cons.injEq] at e
  exact⟨e.1,e.2⟩
 have h2:=hs2.mlook 0 rfl hm
 have h3:lkv P H t v (ek k)= .pb id a b:=by unfold lkv;rw[h2];rfl
 rw[h3]
 exact⟨h2,fun c=>(zn ht hke).2.2.1 _ _ _,fun c=>(zn ht hke).2.2.2 _ _ _⟩
theorem ifind_im{f:κ×β→List IV}{g:β→IV}(hk:KE ek)(hf: ∀x,f x=[ek x.1,g x.2]): ∀(m:List (κ×β)) (i:Nat),(mget m k=none∧ifind (ek k) (m.map f) i=some none)∨ ∃j x,mget m k=some x∧ifind (ek k) (m.map f) i=some (some (j,g x))
 |[],i=> .inl ⟨rfl,rfl⟩
 |p::m,i=>by
  rw[List.map_cons,hf p]
  unfold mget ifind
  rw[hk]
  by_cases e:k=p.1
  ·subst e
   simp only[decide_true,if_true]
   exact .inr ⟨i,p.2,rfl,rfl⟩
  ·simp only[e,decide_false,if_false]
   exact ifind_im hk hf m (i+1)
theorem ilk_some{f:κ×β→List IV}{g:β→IV}{x:β}(hk:KE ek)(hf: ∀x,f x=[ek x.1,g x.2])(hm:mkeyOk P t=some (kt,et))(h:mget m k=some x):ilook P H t (.mim (m.map f)) (ek k) false=some (g x):=by
 rcases ifind_im (k:=k) hk hf m 0 with ⟨h1,_⟩|⟨j,y,h1,h2⟩
 ·rw[h] at h1;cases h1
 ·rw[h] at h1;cases h1
  simp only[ilook,hm,irowsM,h2,Bool.false_eq_true,if_false]
theorem ilk_no{f:κ×β→List IV}{g:β→IV}{z:IV}(hk:KE ek)(hf: ∀x,f x=[ek x.1,g x.2])(hm:mkeyOk P t=some (kt,et))(hz:izeroV P et=some z)(h:some (mhas m k)=some false):ilook P H t (.mim (m.map f)) (ek k) false=some z:=by
 rcases ifind_im (k:=k) hk hf m 0 with ⟨_,h2⟩|⟨j,y,h1,_⟩
 ·simp only[ilook,hm,irowsM,h2,hz,Bool.false_eq_true,if_false,Option.map_some]
 ·rw[mhas_f h] at h1;cases h1
theorem ilk_has{f:κ×β→List IV}{γ:β→List (List IV)}(hk:KE ek)(hf: ∀x,f x=[ek x.1,.pim (γ x.2) 0 0])(hm:mkeyOk P t=some (kt,et))(ht:tc P et=some E)(hke:E.kd= .pointer e')(h:some (mhas m k)=some true):
  ilook P H t (.mim (m.map f)) (ek k) false=some (lkv P H t (.mim (m.map f)) (ek k))∧(∀c,ibin P .eql et (lkv P H t (.mim (m.map f)) (ek k)) .nilp c=some (.bool false))∧ ∀c,ibin P .neq et (lkv P H t (.mim (m.map f)) (ek k)) .nilp c=some (.bool true):=by
 obtain⟨x,hx⟩:=mhas_t h
 have h2:=ilk_some (H:=H) (g:=fun x=> .pim (γ x) 0 0) hk hf hm hx
 have h3:lkv P H t (.mim (m.map f)) (ek k)= .pim (γ x) 0 0:=by unfold lkv;rw[h2];rfl
 rw[h3]
 exact⟨h2,fun c=>(zn ht hke).1 _ _ _,fun c=>(zn ht hke).2.1 _ _ _⟩
theorem kN{q:IntKind}{k:Int}{m:List (Int×β)}{f:Int×β→List IV}{g:β→IV}{x:β}(hf: ∀x,f x=[.int q x.1,g x.2])(hm:mkeyOk P t=some (kt,et))(h:mget m k=some x):ilook P H t (.mim (m.map f)) (.int q k) false=some (g x):=ilk_some (zzf q) hf hm h
theorem ilk_noI{q:IntKind}{k:Int}{m:List (Int×β)}{f:Int×β→List IV}{g:β→IV}{z:IV}(hf: ∀x,f x=[.int q x.1,g x.2])(hm:mkeyOk P t=some (kt,et))(hz:izeroV P et=some z)(h:some (mhas m k)=some false):ilook P H t (.mim (m.map f)) (.int q k) false=some z:=ilk_no (zzf q) hf hm hz h
theorem ilk_hasI{q:IntKind}{k:Int}{m:List (Int×β)}{f:Int×β→List IV}{γ:β→List (List IV)}(hf: ∀x,f x=[.int q x.1,.pim (γ x.2) 0 0])(hm:mkeyOk P t=some (kt,et))(ht:tc P et=some E)(hke:E.kd= .pointer e')(h:some (mhas m k)=some true):
  ilook P H t (.mim (m.map f)) (.int q k) false=some (lkv P H t (.mim (m.map f)) (.int q k))∧(∀c,ibin P .eql et (lkv P H t (.mim (m.map f)) (.int q k)) .nilp c=some (.bool false))∧ ∀c,ibin P .neq et (lkv P H t (.mim (m.map f)) (.int q k)) .nilp c=some (.bool true):=ilk_has (zzf q) hf hm ht hke h
theorem nil_ptr(ht:tc P et=some E)(hke:E.kd= .pointer e'):(∀c,ibin P .eql et .nilp .nilp c=some (.bool true))∧ ∀c,ibin P .neq et .nilp .nilp c=some (.bool false):=by
 constructor<;>intro c<;>simp[ibin,ieqO,ht,hke]
theorem N_mput{A:SA}{w:IV}{x:β}{K:Heap→Prop}(hs:HS F (mo R v m::A::L) H)(hk:KE ek)(hr:KR ek R)(hf: ∀p,A p→R.p [ek k,w] (k,x) p)(hm:mkeyOk P t=some (kt,et))(K1: ∀H',HS F (mo R v (mset m k x)::L) H'→K H'):putK (imput P H t v (ek k) w) H K:=by
 obtain⟨id,b,h1,h2⟩:=hs.mput hk hr hf hm
 rw[h1]
 exact K1 _ h2
end
theorem range_fm{γ:Type}: ∀(xs:List γ),(List.range xs.length).filterMap (fun j=>xs[j]?)=xs
 |[]=>rfl
 |x::xs=>by
  rw[List.length_cons,List.range_succ_eq_map,List.filterMap_cons,List.filterMap_map]
  show x::_=_
  congr 1
  exact range_fm xs
theorem U_rmapL{P:Program}{K R:Fr→Heap→Prop}{X:List (Nat×(Fr→Heap→Prop))}{a:Fr}{H:Heap}{ops0:Array Oper}(pre:List Oper){x:Operand}{t kt et:TypeId}{tI tN tB tE tX tV bid b2 r0 r1 r2 ix:Nat}{y0 y1 y2 y3 y4 y5:TypeId}{p0 p1 p2 p3 p4 p5:String}{f0 f1 f2 f3 f4 f5:Array Edge}{body:Code}
  {γ:Type} (xs:List γ) (f:γ→List IV) (g:γ→IV) (n:Nat) (l:List γ→List (Nat×IV)) (I:List γ→Heap→Prop) (hops:ops0=(pre++[(⟨some tI,.range t x,y0,p0,f0,none⟩:Oper)]).toArray) (hu:P.underlying t=some (.map kt et)) (hg: ∀x,(f x)[ix]?=some (g x)) (hix:ix<2)
  (hpre:vcO P ops0 none pre (hold fun a1 H1=>a1.ev x= .mim (xs.map f)∧Fi a1 n (l [])∧I [] H1) a H)
  (hn:(tI<n∧tN<n∧tB<n∧tE<n∧tX<n∧tV<n)∧(tN≠tI∧tB≠tI∧tN≠tB∧tE≠tX)∧tE≠tI∧tX≠tI∧tV≠tI) (hl: ∀ys,∀p∈l ys,p.1≠tI∧p.1≠tN∧p.1≠tB∧p.1≠tE∧p.1≠tX∧p.1≠tV)
  (hbody: ∀it ys x H,(∃rest,List.Perm (ys++x::rest) xs)→I ys H→W P body (outs (fun a' H'=>Fi a' n ((tI,it)::l (ys++[x]))∧I (ys++[x]) H') R ((b2,fun a' H'=>Fi a' n ((tI,it)::l (ys++[x]))∧I (ys++[x]) H')::(bid,K)::X)) (fr n ((tV,g x)::(tI,it)::l ys)) H)
  (hend: ∀ys a H,List.Perm ys xs→Fi a n (l ys)→I ys H→K a H):
  W P (.seq (.region r0 ops0 false) (.block bid (.loop (.seq (.region r1 #[⟨some tN,.next (.tmp tI) false,y1,p1,f1,none⟩,⟨some tB,.extract (.tmp tN) 0,y2,p2,f2,none⟩] false)
   (.seq (.cond (.tmp tB) .skip (.exit bid)) (.block b2 (.seq (.region r2 #[⟨some tE,.entry (.tmp tI),y3,p3,f3,none⟩,⟨some tX,.extract (.tmp tE) ix,y4,p4,f4,none⟩,⟨some tV,.assign (.tmp tX),y5,p5,f5,none⟩] false) body))))))) (outs K R X) a H:=by
 obtain⟨⟨h1,h2,h3,h4,h5,h6⟩,hd,d1,d2,d3⟩:=hn
 have perm: ∀{js:List Nat},List.Perm js (List.range (xs.map f).length)→List.Perm (js.filterMap fun j=>xs[j]?) xs:=by
  intro js h
  have:=h.filterMap fun j=>xs[j]?
  rw[List.length_map] at this
  rwa [range_fm] at this
 have keep: ∀{l:List (Nat×IV)} {a:Fr} {d:Nat} {v:IV},(∀p∈l,p.1≠d)→l.map (fun p=>a.get p.1)=l.map (·.2)→l.map (fun p=>(a.put d v).get p.1)=l.map (·.2):=by
  intro l a d v hp h
  rw[←h]
  refine List.map_congr_left fun p hm=>?_
  simp only[Fr.put]
  rw[if_neg (hp p hm)]
 refine W_rmap' pre (rows:=xs.map f) (fun it js a H=>Fi a n ((tI,it)::l (js.filterMap fun j=>xs[j]?))∧I (js.filterMap fun j=>xs[j]?) H) hops hu hix ?_ ?_ hd ?_ ?_
 ·have hw: ∀(a1:Fr) (H1:Heap),(hold fun a1 H1=>a1.ev x= .mim (xs.map f)∧Fi a1 n (l [])∧I [] H1) a1 H1→a1.ev x= .mim (xs.map f)∧tI<a1.n∧ ∀it,Fi (a1.put tI it) n ((tI,it)::l (([]:List Nat).filterMap fun j=>xs[j]?))∧I (([]:List Nat).filterMap fun j=>xs[j]?) H1:=by
   rintro a1 H1 ⟨q1,⟨q2,q3,q4⟩,q5⟩
   refine⟨q1,by rw[q2];exact h1,fun it=>⟨⟨q2,q3,?_⟩,q5⟩⟩
   simp only[List.map_cons,List.filterMap_nil]
   rw[keep (fun p hp=>(hl _ p hp).1) q4]
   simp[Fr.put]
  exact vcO_mono hw hpre
 ·rintro it p a H ⟨⟨q1,q2,q3⟩,_⟩
  simp only[List.map_cons,List.cons.injEq] at q3
  exact⟨q3.1,by rw[q1];exact h2,by rw[q1];exact h3,by rw[q1];exact h4,by rw[q1];exact h5,by rw[q1];exact h6⟩
 ·rintro it p j row a H v hj hv ⟨rest,hr⟩ ⟨⟨q1,q2,q3⟩,hI⟩
  rw[List.getElem?_map,Option.map_eq_some_iff] at hj
  obtain⟨x,hx,rfl⟩:=hj
  rw[hg] at hv
  cases hv
  have hp2: ∃rest,List.Perm ((p.filterMap fun j=>xs[j]?)++x::rest) xs:=by
   refine⟨rest.filterMap fun j=>xs[j]?,?_⟩
   have:=perm hr
   rwa [List.filterMap_append,List.filterMap_cons,hx] at this
  simp only[List.map_cons,List.cons.injEq] at q3
  refine zg (n:=n) (l:=(tV,g x)::(tI,it)::l (p.filterMap fun j=>xs[j]?)) ⟨q1,q2,?_⟩ ((hbody it _ x H hp2 hI).mono ?_)
  ·simp only[List.map_cons,List.cons.injEq]
   refine⟨by simp[rndFr,Fr.put],?_,?_⟩
   ·simp only[rndFr,Fr.put]
    rw[if_neg (Ne.symm d3),if_neg (Ne.symm d2),if_neg (Ne.symm d1),if_neg (Ne.symm hd.2.1),if_neg (Ne.symm hd.1)]
    exact q3.1
   ·exact keep (fun p hp=>(hl _ p hp).2.2.2.2.2) (keep (fun p hp=>(hl _ p hp).2.2.2.2.1) (keep (fun p hp=>(hl _ p hp).2.2.2.1) (keep (fun p hp=>(hl _ p hp).2.2.1) (keep (fun p hp=>(hl _ p hp).2.1) q3.2))))
  ·have fm:(p++[j]).filterMap (fun j=>xs[j]?)=(p.filterMap fun j=>xs[j]?)++[x]:=by rw[List.filterMap_append];simp[hx]
   intro e a' H' hq
   cases e with
   |normal=>show Fi a' n _∧I _ H';rw[fm];exact hq
   |exit i=>
    simp only[outs,List.lookup,blockK] at hq ⊢
    by_cases e1:i=b2
    ·subst e1
     simp only[beq_self_eq_true] at hq
     rw[if_pos rfl,fm];exact hq
    ·rw[if_neg e1]
     have:(i==b2)=false:=by simpa using e1
     simp only[this] at hq
     by_cases e2:i=bid
     ·subst e2
      simp only[beq_self_eq_true] at hq
      rw[if_pos rfl];exact hq
     ·rw[if_neg e2]
      have:(i==bid)=false:=by simpa using e2
      simp only[this] at hq
      exact hq
   |_=>exact hq
 ·rintro it p a H hp ⟨⟨q1,q2,q3⟩,hI⟩
  simp only[List.map_cons,List.cons.injEq] at q3
  exact hend _ _ _ (perm hp) ⟨q1,q2,keep (fun p hp=>(hl _ p hp).2.2.1) (keep (fun p hp=>(hl _ p hp).2.1) q3.2)⟩ hI
theorem U_rmap{P:Program}{K R:Fr→Heap→Prop}{X:List (Nat×(Fr→Heap→Prop))}{a:Fr}{H:Heap}{ops0:Array Oper}(pre:List Oper){x:Operand}{t kt et:TypeId}{tI tN tB tE tX tV bid b2 r0 r1 r2 ix:Nat}{y0 y1 y2 y3 y4 y5:TypeId}{p0 p1 p2 p3 p4 p5:String}{f0 f1 f2 f3 f4 f5:Array Edge}{body:Code}
  {γ:Type} (xs:List γ) (f:γ→List IV) (g:γ→IV) (n:Nat) (l:List (Nat×IV)) (I:List γ→Heap→Prop) (hops:ops0=(pre++[(⟨some tI,.range t x,y0,p0,f0,none⟩:Oper)]).toArray) (hu:P.underlying t=some (.map kt et)) (hg: ∀x,(f x)[ix]?=some (g x)) (hix:ix<2)
  (hpre:vcO P ops0 none pre (hold fun a1 H1=>a1.ev x= .mim (xs.map f)∧Fi a1 n l∧I [] H1) a H)
  (hn:(tI<n∧tN<n∧tB<n∧tE<n∧tX<n∧tV<n)∧(tN≠tI∧tB≠tI∧tN≠tB∧tE≠tX)∧tE≠tI∧tX≠tI∧tV≠tI) (hl: ∀p∈l,p.1≠tI∧p.1≠tN∧p.1≠tB∧p.1≠tE∧p.1≠tX∧p.1≠tV)
  (hbody: ∀it ys x H,(∃rest,List.Perm (ys++x::rest) xs)→I ys H→W P body (outs (fun a' H'=>Fi a' n ((tI,it)::l)∧I (ys++[x]) H') R ((b2,fun a' H'=>Fi a' n ((tI,it)::l)∧I (ys++[x]) H')::(bid,K)::X)) (fr n ((tV,g x)::(tI,it)::l)) H)
  (hend: ∀ys a H,List.Perm ys xs→Fi a n l→I ys H→K a H):
  W P (.seq (.region r0 ops0 false) (.block bid (.loop (.seq (.region r1 #[⟨some tN,.next (.tmp tI) false,y1,p1,f1,none⟩,⟨some tB,.extract (.tmp tN) 0,y2,p2,f2,none⟩] false)
   (.seq (.cond (.tmp tB) .skip (.exit bid)) (.block b2 (.seq (.region r2 #[⟨some tE,.entry (.tmp tI),y3,p3,f3,none⟩,⟨some tX,.extract (.tmp tE) ix,y4,p4,f4,none⟩,⟨some tV,.assign (.tmp tX),y5,p5,f5,none⟩] false) body))))))) (outs K R X) a H:=
 U_rmapL pre xs f g n (fun _=>l) I hops hu hg hix hpre hn (fun _=>hl) hbody hend
def IterN(P:Program)(gf:FuncId)(fs lb:List IV)(L0:List SA){α:Type}(iv:α→IV)(xs:List α):Prop:=
 ∀{σ:Type} (y:σ→α→Option (Bool×σ)) (t:σ) (I:Bool×σ→SA) (id:Id),(∀xs',List.Perm xs' xs→ ∃e,runL y t xs'=some e)→YS P id iv y I→ ∀F H,HS F (I (true,t)::L0) H→CallW P gf (fs++ .yld id::lb) H fun _ H'=> ∃e,(∃xs',List.Perm xs' xs∧runL y t xs'=some e)∧HS F (I e::L0) H'
theorem runL_app{σ α:Type}(y:σ→α→Option (Bool×σ)): ∀(xs ys:List α) (t:σ),runL y t (xs++ys)=(runL y t xs).bind fun r=>if r.1=true then runL y r.2 ys else some r
 |[],ys,t=>by simp[runL]
 |x::xs,ys,t=>by
  simp only[List.cons_append,runL]
  cases h:y t x with
  |none=>rfl
  |some r=>
   simp only[Option.bind_some]
   by_cases hr:r.1=true
   ·simp only[hr,if_true];exact runL_app y xs ys r.2
   ·simp[hr]
theorem isort_permI{a b:List Int}(h:List.Perm a b):isort a=isort b:=by
 refine List.Perm.eq_of_pairwise (le:=(· ≤ ·)) ?_ (kF a) (kF b) (((kR a).trans h).trans (kR b).symm)
 intro x y _ _ h1 h2
 exact Int.le_antisymm h1 h2
end Go.Proofs.Ytoojnagdenoknaa.IL
