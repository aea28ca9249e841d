/- The layer of owned parts, part 4: lists of what owns; calls; loops over functions. Nothing here speaks of a given program. -/
import Derived.Test.YtoojnagdenoknaaQD
set_option linter.unusedSectionVars false
set_option linter.unnecessarySimpa false
set_option linter.unusedVariables false
set_option linter.unusedSimpArgs false
namespace Go.Proofs.Ytoojnagdenoknaa.IL
open Go Go.RowKit PL
def hol{α:Type}(R:Rp α)(v:IV)(xs:List α)(id:Id)(r i:Nat)(row:List IV):SA:=fun h=>
 ∃full pre rows post,(v= .sb id pre.length xs.length full∧r=pre.length+i∧rows.length=xs.length∧rows[i]?=some row)∧star (pt id ⟨R.E,pre++rows++post⟩) (Sep ((List.zipWith R.p rows xs).set i emp)) h
section lists
variable {P:Program} {F:SA} {L:List SA} {H:Heap} {α:Type} {R:Rp α} {v:IV} {xs:List α}
theorem HS.openL{t e:TypeId}{C A:TC}{k:IntKind}{i:Int}{x:α}(n:Nat)(hs:HS F L H)(hn:L[n]?=some (sl R v xs))(ht:tc P t=some C)(hk:C.kd= .slice e)(he:tc P e=some A)(hE:A.size=R.E)(h:idx xs i=some x):
  ∃id r row,iiaddr P H t v (.int k i)=some (.pb id r 0)∧HS F (hol R v xs id r i.toNat row::R.p row x::L.eraseIdx n) H:=by
 obtain⟨h0,h1,h2⟩:=yn h
 have hlt:n<L.length:=(List.getElem?_eq_some_iff.1 hn).1
 have hnn: ∀A:SA,(L.set n A)[n]?=some A:=fun A=>by simp[hlt]
 obtain⟨⟨id,r,row⟩,hs2⟩:=hs.ex (ι:=Id×Nat×List IV) (B:=fun o=>star (hol R v xs o.1 o.2.1 i.toNat o.2.2) (R.p o.2.2 x)) n hn (fun p a=>by
  rcases a with ⟨rfl,rfl,_⟩|⟨id,full,pre,rows,post,rfl,hl,s⟩
  ·simp at h2
  ·have hi:i.toNat<rows.length:=by rw[hl];exact(List.getElem?_eq_some_iff.1 h2).1
   have hz:(List.zipWith R.p rows xs)[i.toNat]?=some (R.p rows[i.toNat] x):=by
    rw[List.getElem?_zipWith,h2];simp[hi]
   refine⟨(id,pre.length+i.toNat,rows[i.toNat]),?_⟩
   have s2:=zF s (fun _ h=>h) (fun _ h=>zv (yU h hz))
   have s3:=yA s2
   exact zF s3 (fun q h=>⟨full,pre,rows,post,⟨rfl,rfl,hl,by simp[hi]⟩,h⟩) (fun _ h=>h))
 have hs3:=hs2.two n (hnn _)
 rw[List.eraseIdx_set_eq] at hs3
 refine⟨id,r,row,?_,hs3⟩
 obtain⟨p,q,j,⟨full,pre,rows,post,⟨rfl,rfl,hl,hr⟩,p1,p2,j2,a,b⟩,_⟩:=hs3.out 0 rfl
 have hg:H.get id=some ⟨R.E,pre++rows++post⟩:=part_blk.1 (j.left (j2.left (by rw[a id,if_pos rfl])))
 simp only[iiaddr,ht,hk,he,hg]
 rw[if_pos ⟨h0,by omega,hE.symm⟩]
theorem HS.hii{t e:TypeId}{C A:TC}{k:IntKind}{i:Int}{x:α}{id:Id}{r:Nat}{row:List IV}(n:Nat)(hs:HS F L H)(hn:L[n]?=some (hol R v xs id r i.toNat row))(ht:tc P t=some C)(hk:C.kd= .slice e)(he:tc P e=some A)(hE:A.size=R.E)(h:idx xs i=some x):
  iiaddr P H t v (.int k i)=some (.pb id r 0):=by
 obtain⟨h0,h1,h2⟩:=yn h
 obtain⟨p,q,j,⟨full,pre,rows,post,⟨rfl,rfl,hl,hr⟩,p1,p2,j2,a,b⟩,_⟩:=hs.out n hn
 have hg:H.get id=some ⟨R.E,pre++rows++post⟩:=part_blk.1 (j.left (j2.left (by rw[a id,if_pos rfl])))
 simp only[iiaddr,ht,hk,he,hg]
 rw[if_pos ⟨h0,by omega,hE.symm⟩]
theorem HS.hlen{t e:TypeId}{C:TC}{i:Nat}{id:Id}{r:Nat}{row:List IV}(n:Nat)(hs:HS F L H)(hn:L[n]?=some (hol R v xs id r i row))(ht:tc P t=some C)(hk:C.kd= .slice e):ilen P t v=some (.int .i64 (xs.length:Int)):=
 hs.fact n hn fun p ⟨full,pre,rows,post,⟨h,_⟩,_⟩=>by subst h;simp[ilen,ht,hk]
theorem HS.hget{i:Nat}{id:Id}{r:Nat}{row:List IV}(n:Nat)(hs:HS F L H)(hn:L[n]?=some (hol R v xs id r i row)): ∃b,H.get id=some b∧b.rows[r]?=some row∧b.E=R.E:=by
 obtain⟨p,q,j,⟨full,pre,rows,post,⟨rfl,rfl,hl,hr⟩,p1,p2,j2,a,b⟩,_⟩:=hs.out n hn
 have hg:H.get id=some ⟨R.E,pre++rows++post⟩:=part_blk.1 (j.left (j2.left (by rw[a id,if_pos rfl])))
 refine⟨_,hg,?_,rfl⟩
 have hi:i<rows.length:=(List.getElem?_eq_some_iff.1 hr).1
 simp only
 rw[List.append_assoc,List.getElem?_append_right (by omega),List.getElem?_append_left (by omega),show pre.length+i-pre.length=i by omega,hr]
theorem HS.hrow{i:Nat}{id:Id}{r:Nat}{row:List IV}(n:Nat)(hs:HS F L H)(hn:L[n]?=some (hol R v xs id r i row))(o:Nat):rowOf H (.pb id r o)=some (row,o):=by
 obtain⟨b,h1,h2,_⟩:=hs.hget n hn
 simp only[rowOf,h1,Option.bind_some,h2,Option.map_some]
theorem N_sth{t:TypeId}{C:TC}{i:Nat}{id:Id}{r o:Nat}{row row' cs:List IV}{w:IV}{K:Heap→Prop}(n:Nat)(hs:HS F L H)(hn:L[n]?=some (hol R v xs id r i row))(ht:tc P t=some C)(hcs:w.cells=some cs)(h1:cs.length=C.size)(h2:o+cs.length≤row.length)(h3: ∀x∈cs,x.one=true)(hr:splice row o cs=row')
  (k: ∀H',HS F (L.set n (hol R v xs id r i row')) H'→K H'):putK (istore P H t (.pb id r o) w) H K:=by
 obtain⟨p,q,j,⟨full,pre,rows,post,⟨rfl,rfl,hl,hr0⟩,p1,p2,j2,a,b⟩,kk,_⟩:=hs.out n hn
 have hg:H.get id=some ⟨R.E,pre++rows++post⟩:=part_blk.1 (j.left (j2.left (by rw[a id,if_pos rfl])))
 have hi:i<rows.length:=(List.getElem?_eq_some_iff.1 hr0).1
 have hrow:(pre++rows++post)[pre.length+i]?=some row:=by
  rw[List.append_assoc,List.getElem?_append_right (by omega),List.getElem?_append_left (by omega),show pre.length+i-pre.length=i by omega,hr0]
 simp only[istore,ht,hcs,hg,hrow]
 rw[if_pos ⟨h1,h2,h3⟩]
 obtain⟨u,u1,u2⟩:=j2.assoc j
 have j3:=join_put a u2 (b':=⟨R.E,(pre++rows++post).set (pre.length+i) (splice row o cs)⟩)
 have hq2: ∀x,x=id→p2 x=none∧q x=none:=by
  rintro x rfl
  have hx:u x=none:=by
   rcases u2 x with ⟨e1,e2⟩|⟨e1,e2⟩
   ·rw[a x,if_pos rfl] at e1;cases e1
   ·exact e1
  rcases u1 x with ⟨e1,e2⟩|⟨e1,e2⟩
  ·exact⟨e1,by rw[←e2];exact hx⟩
  ·exact⟨by rw[←e2];exact hx,e1⟩
 refine k _ (kk _ (fun x=>if x=id then some (.blk ⟨R.E,(pre++rows++post).set (pre.length+i) (splice row o cs)⟩) else p2 x) _ ⟨full,pre,rows.set i row',post,⟨rfl,rfl,by simpa using hl,by simp[hi]⟩,(fun x=>if x=id then some (.blk ⟨R.E,pre++rows.set i row'++post⟩) else none),p2,fun x=>?_,fun _=>rfl,?_⟩ (fun x=>?_) (hs.1.put hg))
 ·by_cases e:x=id
  ·refine .inr ⟨(hq2 x e).1,?_⟩
   simp only[if_pos e]
   rw[hr,List.append_assoc,List.set_append_right _ _ (by omega),List.set_append_left _ _ (by omega),show pre.length+i-pre.length=i by omega,List.append_assoc]
  ·exact .inl ⟨by simp[e],by simp[e]⟩
 ·have e:(List.zipWith R.p (rows.set i row') xs).set i emp=(List.zipWith R.p rows xs).set i emp:=by
   apply List.ext_getElem?
   intro q
   by_cases hq:i=q
   ·subst hq
    rw[List.getElem?_set,List.getElem?_set]
    simp
   ·rw[List.getElem?_set_ne hq,List.getElem?_set_ne hq,List.getElem?_zipWith,List.getElem?_zipWith,List.getElem?_set_ne hq]
  rw[e];exact b
 ·rw[app_put,part_put]
  by_cases e:x=id
  ·exact .inr ⟨(hq2 x e).2,by simp[e]⟩
  ·simp only[if_neg e]
   rcases j x with ⟨e1,e2⟩|⟨e1,e2⟩
   ·refine .inl ⟨?_,e2⟩
    rcases j2 x with ⟨f1,f2⟩|⟨f1,f2⟩
    ·rw[←f2];exact e1
    ·exact f1
   ·refine .inr ⟨e1,?_⟩
    rw[e2]
    rcases j2 x with ⟨f1,f2⟩|⟨f1,f2⟩
    ·exact f2
    ·rw[f2,a x,if_neg e,f1]
theorem fold_l{i:Int}{y:α}{l:List α}{id:Id}{r:Nat}{row:List IV}(ks:setI xs i y=some l){p:Part}(h:star (hol R v xs id r i.toNat row) (R.p row y) p):sl R v l p:=by
 rw[set_facts ks]
 obtain⟨p1,p2,j,⟨full,pre,rows,post,⟨rfl,rfl,hl,hr⟩,s⟩,b⟩:=h
 refine .inr ⟨id,full,pre,rows,post,by simp,by simpa using hl,?_⟩
 have k:star (star (pt id ⟨R.E,pre++rows++post⟩) (Sep ((List.zipWith R.p rows xs).set i.toNat emp))) (R.p row y) p:=⟨p1,p2,j,s,b⟩
 refine zF (zy k) (fun _ h=>h) (fun _ h=>?_)
 have hi:i.toNat<rows.length:=(List.getElem?_eq_some_iff.1 hr).1
 have e:List.zipWith R.p rows (xs.set i.toNat y)=(List.zipWith R.p rows xs).set i.toNat (R.p row y):=by
  apply List.ext_getElem?
  intro q
  by_cases hq:i.toNat=q
  ·subst hq
   rw[List.getElem?_zipWith,hr,List.getElem?_set_self (by omega),List.getElem?_set_self (by simp;omega)]
  ·rw[List.getElem?_zipWith,List.getElem?_set_ne hq,List.getElem?_set_ne hq,List.getElem?_zipWith]
 rw[e]
 exact zzi (zv h) (by simp;omega)
theorem HS.sli{t e:TypeId}{C A:TC}{U V:Option IV}{lo hi:Int}{l:List α}(n:Nat)(hs:HS F L H)(hn:L[n]?=some (sl R v xs))(ht:tc P t=some C)(hk:C.kd= .slice e)(he:tc P e=some A)(hE:A.size=R.E)
  (hb:ibnd U V none xs.length=some (lo.toNat,hi.toNat,none)) (ks:PL.sli xs lo hi=some l): ∃v',islice P H t v U V none=some v'∧HS F (sl R v' l::L.eraseIdx n) H:=by
 obtain⟨b1,b2,b3,b4⟩:=kK ks
 have hlt:n<L.length:=(List.getElem?_eq_some_iff.1 hn).1
 have hnn: ∀A:SA,(L.set n A)[n]?=some A:=fun A=>by simp[hlt]
 rcases hs.slb n hn with ⟨rfl,rfl⟩|⟨id,full,pre,rows,post,rfl,hl,hg,_⟩
 ·refine⟨.nils,?_,?_⟩
  ·simp only[islice,ht,hk,he]
   rw[show(0:Nat)=([]:List α).length from rfl,hb]
  ·subst b4
   exact(hs.drop n hn).cons' fun p e=> .inl ⟨rfl,by simp,e⟩
 ·have hlo:lo.toNat≤hi.toNat∧hi.toNat≤xs.length:=⟨by omega,by omega⟩
  refine⟨.sb id (pre.length+lo.toNat) (hi.toNat-lo.toNat) (fullOf full hi.toNat xs.length none),?_,?_⟩
  ·simp only[islice,ht,hk,he,hb,hg]
   rw[if_pos hE.symm]
  ·refine hs.turnT n hn fun p a=>?_
   rcases a with ⟨e,_⟩|⟨id',full',pre',rows',post',e,hl',s⟩
   ·cases e
   ·have e1:id=id'∧pre.length=pre'.length:=by injection e with e1 e2;exact⟨e1,e2⟩
    obtain⟨rfl,hp⟩:=e1
    have hz:List.zipWith R.p rows' xs=(List.zipWith R.p rows' xs).take lo.toNat++(List.zipWith R.p ((rows'.drop lo.toNat).take (hi.toNat-lo.toNat)) l++(List.zipWith R.p rows' xs).drop hi.toNat):=by
     rw[b4,←List.take_zipWith,←List.drop_zipWith]
     rw[show(List.zipWith R.p rows' xs).drop hi.toNat=((List.zipWith R.p rows' xs).drop lo.toNat).drop (hi.toNat-lo.toNat) by rw[List.drop_drop];congr 1;omega]
     rw[List.take_append_drop,List.take_append_drop]
    rw[hz] at s
    have s2:=zF s (fun _ h=>h) (fun _ h=>zF (Sep_append.1 h) (fun _ _=>trivial) (fun _ h=>zv (zF (Sep_append.1 h) (fun _ h=>h) (fun _ _=>(trivial:tr _)))))
    have s3:star tr (star (IL.pt id ⟨R.E,pre'++rows'++post'⟩) (Sep (List.zipWith R.p ((rows'.drop lo.toNat).take (hi.toNat-lo.toNat)) l))) p:=
     zF (yA (zF (zV s2) (fun _ h=>h) (fun _ h=>zV h))) (fun _ _=>trivial) (fun _ h=>h)
    refine zF s3 (fun _ h=>h) (fun q h=> .inr ⟨id,fullOf full hi.toNat xs.length none,pre'++rows'.take lo.toNat,(rows'.drop lo.toNat).take (hi.toNat-lo.toNat),rows'.drop hi.toNat++post',?_,?_,?_⟩)
    ·have e1:(pre'++rows'.take lo.toNat).length=pre.length+lo.toNat:=by simp;omega
     have e2:l.length=hi.toNat-lo.toNat:=by rw[b4];simp;omega
     rw[e1,e2]
    ·rw[b4];simp;omega
    ·have e3:pre'++rows'.take lo.toNat++(rows'.drop lo.toNat).take (hi.toNat-lo.toNat)++(rows'.drop hi.toNat++post')=pre'++rows'++post':=by
      have:rows'.drop hi.toNat=(rows'.drop lo.toNat).drop (hi.toNat-lo.toNat):=by rw[List.drop_drop];congr 1;omega
      rw[this]
      simp only[List.append_assoc,List.append_cancel_left_eq]
      rw[←List.append_assoc ((rows'.drop lo.toNat).take _),List.take_append_drop,←List.append_assoc,List.take_append_drop]
     rw[e3];exact h
end lists
def CallS(P:Program)(f:FuncId)(args:List IV)(L0:List SA)(K:IV→List SA→Prop):Prop:= ∀F H,HS F L0 H→CallW P f args H fun v H'=> ∃L',K v L'∧HS F L' H'
theorem CallS.mono{P:Program}{f:FuncId}{args:List IV}{L0:List SA}{K K':IV→List SA→Prop}(h:CallS P f args L0 K)(k: ∀v L,K v L→K' v L):CallS P f args L0 K':=
 fun F H hs=>(h F H hs).mono fun v H' ⟨L',h1,h2⟩=>⟨L',k v L' h1,h2⟩
theorem callS{P:Program}{f:FuncId}{args:List IV}{L0 L1 L:List SA}{K0:IV→List SA→Prop}{K:IV→Heap→Prop}{F:SA}{H:Heap}(w:CallS P f args L0 K0)(hs:HS F L H)(e:L=L0++L1)(k: ∀v H' L',K0 v L'→HS F (L'++L1) H'→K v H'):callM P none f args H K:=by
 subst e
 exact(w _ _ hs.framed).mono fun v H' ⟨L',h1,h2⟩=>k v H' L' h1 h2.unframed
theorem hwf_nil(N:Nat→Nat):Hwf (.nil N):=⟨fun id c h=>by simp[Heap.part,Heap.nil] at h,fun id b s h=>by simp[Heap.nil] at h⟩
theorem zY{P:Program}{f:FuncId}{args:List IV}{v:IV}(hcl: ∀v∈args,closed v)(h: ∀F H,HS F [] H→CallW P f args H fun r H'=>Fz H' r v):Pure1 P f args v:=Pure1_fz hcl (h tr _ (HS.nil (hwf_nil _)))
theorem Pure1.S{P:Program}{f:FuncId}{args:List IV}{v:IV}(h:Pure1 P f args v):CallS P f args [] fun r L=>r=v∧L=[]:=by
 intro F H hs
 refine(PCall.at h H).mono ?_
 rintro r H' ⟨e,rfl⟩
 exact⟨[],⟨e,rfl⟩,hs⟩
theorem callLd{P:Program}{f:FuncId}{args args':List IV}{v:IV}{H:Heap}{K:IV→Heap→Prop}(h:Pure1 P f args' v)(hz:Fzs H args args')(hf:flatv v)(k:K v H):callM P none f args H K:=callL h hz hf k
def YS(P:Program)(id:Id){α:Type}(iv:α→IV){σ:Type}(y:σ→α→Option (Bool×σ))(I:Bool×σ→SA):Prop:=
 ∀t x r,y t x=some r→ ∀F H,HS F [I (true,t)] H→YW P id [iv x] H fun v H'=>v= .bool r.1∧HS F [I r] H'
section loops
variable {F:SA} {L:List SA} {H:Heap}
theorem lpa_part{H:Heap}{id:Id}{s:LS}{p q:Part}(a:lpa id s p)(j:Join p q H.part):H.part id=some (.lp s):=by
 rcases j id with ⟨h1,h2⟩|⟨h1,h2⟩
 ·rw[a id,if_pos rfl] at h1;cases h1
 ·rw[h2,a id,if_pos rfl]
theorem HS.lp{id:Id}{s:LS}(n:Nat)(hs:HS F L H)(hn:L[n]?=some (lpa id s)):H.loop id=some s:=by
 obtain⟨p,q,j,a,_⟩:=hs.out n hn
 exact(part_lp hs.1).1 (lpa_part a j)
theorem zzT{H:Heap}{id:Id}{s:LS}(h:H.part id=some (.lp s)):H.get id=none:=by
 unfold Heap.part at h
 split at h
 ·cases h
 ·assumption
theorem HS.setl{id:Id}{s:LS}(n:Nat)(hs:HS F L H)(hn:L[n]?=some (lpa id s))(s':LS):HS F (L.set n (lpa id s')) (H.setl id s'):=by
 obtain⟨p,q,j,a,kk,_⟩:=hs.out n hn
 have hp:=lpa_part a j
 have hg:=zzT hp
 have hpart: ∀i,(H.setl id s').part i=if i=id then some (.lp s') else H.part i:=by
  intro i
  unfold Heap.part
  simp only[setl_get,setl_loop]
  by_cases e:i=id
  ·subst e;simp[hg]
  ·simp[e]
 refine kk _ (fun i=>if i=id then some (.lp s') else none) _ (fun i=>rfl) (fun i=>?_) ⟨fun i c hc=>?_,fun i b s hb hs'=>?_⟩
 ·rw[hpart]
  by_cases e:i=id
  ·subst e
   refine .inr ⟨?_,by simp⟩
   rcases j i with ⟨h1,h2⟩|⟨h1,h2⟩
   ·rw[a i,if_pos rfl] at h1;cases h1
   ·exact h1
  ·refine .inl ⟨by simp[e],?_⟩
   rw[if_neg e]
   rcases j i with ⟨h1,h2⟩|⟨h1,h2⟩
   ·exact h2
   ·rw[h2,h1,a i,if_neg e]
 ·rw[hpart] at hc
  split at hc
  ·rename_i e;subst e;exact hs.1.lt i _ hp
  ·exact hs.1.lt i c hc
 ·simp only[setl_get,setl_loop] at hb hs'
  split at hs'
  ·rename_i e;subst e;rw[hg] at hb;cases hb
  ·exact hs.1.one i b s hb hs'
theorem HS.open_(hs:HS F L H)(k:Nat)(s:LS):HS F (lpa (H.fresh k) s::L) (H.open_ k s):=by
 have hf:=hs.1.fresh k
 have hg:H.get ⟨k,H.next k⟩=none:=by
  unfold Heap.part at hf
  split at hf
  ·cases hf
  ·assumption
 have hpart: ∀i,(H.open_ k s).part i=if i=⟨k,H.next k⟩ then some (.lp s) else H.part i:=by
  intro i
  unfold Heap.part
  simp only[open_get,open_loop,Heap.fresh]
  by_cases e:i=⟨k,H.next k⟩
  ·subst e;simp[hg]
  ·simp[e]
 refine hs.cons (p:=fun i=>if i=⟨k,H.next k⟩ then some (.lp s) else none) (fun i=>rfl) (fun i=>?_) ⟨fun i c hc=>?_,fun i b s' hb hs'=>?_⟩
 ·rw[hpart]
  by_cases e:i=⟨k,H.next k⟩
  ·subst e;exact .inr ⟨hf,by simp⟩
  ·exact .inl ⟨by simp[e],by simp[e]⟩
 ·rw[hpart] at hc
  simp only[Heap.open_]
  split at hc
  ·rename_i e;subst e;simp
  ·have:=hs.1.lt i c hc
   split
   ·rename_i e;rw[e] at this;omega
   ·exact this
 ·simp only[open_get,open_loop] at hb hs'
  split at hs'
  ·rename_i e;subst e;simp only[Heap.fresh] at hb;rw[hg] at hb;cases hb
  ·exact hs.1.one i b s' hb hs'
theorem HS.close{id:Id}{s:LS}(n:Nat)(hs:HS F L H)(hn:L[n]?=some (lpa id s)):HS F (L.eraseIdx n) (H.close id):=by
 obtain⟨p,q,j,a,_,kk⟩:=hs.out n hn
 have hp:=lpa_part a j
 have hg:=zzT hp
 have hpart: ∀i,(H.close id).part i=if i=id then none else H.part i:=by
  intro i
  unfold Heap.part
  simp only[close_get,close_loop]
  by_cases e:i=id
  ·subst e;simp[hg]
  ·simp[e]
 refine kk _ ?_ ⟨fun i c hc=>?_,fun i b s hb hs'=>?_⟩
 ·funext i
  rw[hpart]
  by_cases e:i=id
  ·subst e
   rcases j i with ⟨h1,h2⟩|⟨h1,h2⟩
   ·rw[a i,if_pos rfl] at h1;cases h1
   ·simp[h1]
  ·rw[if_neg e]
   rcases j i with ⟨h1,h2⟩|⟨h1,h2⟩
   ·exact h2
   ·rw[h2,h1,a i,if_neg e]
 ·rw[hpart] at hc
  split at hc
  ·cases hc
  ·exact hs.1.lt i c hc
 ·simp only[close_get,close_loop] at hb hs'
  split at hs'
  ·cases hs'
  ·exact hs.1.one i b s hb hs'
theorem HS.flat{M:List SA}(hs:HS F (Sep M::L) H):HS F (M++L) H:=hs.mono (fun _ h=>h) fun p h=>Sep_append.2 h
theorem HS.pack{M:List SA}(hs:HS F (M++L) H):HS F (Sep M::L) H:=hs.mono (fun _ h=>h) fun p h=>Sep_append.1 h
theorem HS.comm{M:List SA}(hs:HS F (M++L) H):HS F (L++M) H:=hs.mono (fun _ h=>h) fun p h=>Sep_append.2 (zv (Sep_append.1 h))
end loops
def bodyK{σ:Type}(F:SA)(J:σ→List SA)(jump:σ→Code)(r:Bool×σ):Exit→Fr→Heap→Prop
 | .normal,_,H=>r.1=true∧HS F (J r.2) H
 | .ret,_,H=>(r.1=false∧jump r.2= .ret)∧HS F (J r.2) H
 | .exit i,_,H=>(r.1=false∧jump r.2= .exit i)∧HS F (J r.2) H
 |_,_,_=>False
theorem U_rangeG{P:Program}{Q:Exit→Fr→Heap→Prop}{F:SA}{H:Heap}{g:Operand}{asg body:Code}{n q:Nat}{l:List (Nat×IV)}{gf:FuncId}{fs lb:List IV}{L0:List SA}{α σ:Type}{iv:α→IV}(J:σ→List SA)(t0:σ)(y:σ→α→Option (Bool×σ))(jump:σ→Code)(Ee:Bool×σ→Prop)
  (hg:(fr n l).ev g= .fn (.func gf) fs lb) (hit: ∀(I:Bool×σ→SA) (id:Id),YS P id iv y I→ ∀F H,HS F (I (true,t0)::L0) H→CallW P gf (fs++ .yld id::lb) H fun _ H'=> ∃e,Ee e∧HS F (I e::L0) H') (hs:HS F (L0++J t0) H) (hq:q<n)
  (hbody: ∀t x r,y t x=some r→ ∀F' H',HS F' (J t) H'→W P asg (outs (fun a2 H2=> ∃l2 L2,Fi a2 n l2∧HS F' L2 H2∧ ∀F2 H3,HS F2 L2 H3→W P body (bodyK F2 J jump r) (fr n l2) H3) (fun _ _=>False) []) ((fr n l).put q (iv x)) H')
  (hout: ∀e,Ee e→ ∀H',HS F (L0++J e.2) H'→(e.1=true→Q .normal (fr n l) H')∧(e.1=false→W P (jump e.2) Q (fr n l) H')):W P (.rangeFunc g #[q] asg body) Q (fr n l) H:=by
 refine W_range (fs:=fs) 0 hg ?_
 let I:Bool×σ→SA:=fun s=>Sep (lpa (H.fresh 0) ⟨fr n l,#[q],asg,body,if s.1=true then .ready else .done (jump s.2)⟩::J s.2)
 have hs1:HS F (I (true,t0)::L0) (H.open_ 0 ⟨fr n l,#[q],asg,body,.ready⟩):=by
  have h1:=hs.comm.open_ 0 ⟨fr n l,#[q],asg,body,.ready⟩
  exact HS.pack (M:=lpa (H.fresh 0) ⟨fr n l,#[q],asg,body,.ready⟩::J t0) h1
 have hY:YS P (H.fresh 0) iv y I:=by
  intro t x r hy F' H1 hs'
  have h1:HS F' (lpa (H.fresh 0) ⟨fr n l,#[q],asg,body,.ready⟩::J t) H1:=by simpa using hs'.flat
  refine⟨⟨fr n l,#[q],asg,body,.ready⟩,h1.lp 0 rfl,rfl,by simpa [fr_n] using hq,?_⟩
  have h0:HS (star F' (Sep [lpa (H.fresh 0) ⟨fr n l,#[q],asg,body,.ready⟩])) (J t) H1:=HS.framed (HS.comm (L:=J t) (M:=[lpa (H.fresh 0) ⟨fr n l,#[q],asg,body,.ready⟩]) h1)
  refine(hbody t x r hy _ H1 h0).mono ?_
  intro e a2 H2 hk
  cases e with
  |normal=>
   obtain⟨l2,L2,hf,hL2,hb⟩:=hk
   have h1':HS F' (lpa (H.fresh 0) ⟨fr n l,#[q],asg,body,.ready⟩::L2) H2:=HS.comm (L:=[lpa (H.fresh 0) ⟨fr n l,#[q],asg,body,.ready⟩]) hL2.unframed
   refine⟨h1'.lp 0 rfl,zg hf ?_⟩
   have h2:=h1'.setl 0 rfl ⟨fr n l,#[q],asg,body,.busy⟩
   have h3:HS (star F' (Sep [lpa (H.fresh 0) ⟨fr n l,#[q],asg,body,.busy⟩])) L2 (H2.setl (H.fresh 0) ⟨fr n l,#[q],asg,body,.busy⟩):=HS.framed (HS.comm (L:=L2) (M:=[lpa (H.fresh 0) ⟨fr n l,#[q],asg,body,.busy⟩]) h2)
   refine(hb _ _ h3).mono ?_
   have back: ∀{H3 st},HS (star F' (Sep [lpa (H.fresh 0) ⟨fr n l,#[q],asg,body,.busy⟩])) (J r.2) H3→(if r.1=true then LSt.ready else LSt.done (jump r.2))=st→H3.loop (H.fresh 0)=some ⟨fr n l,#[q],asg,body,.busy⟩∧HS F' [I r] (H3.setl (H.fresh 0) ⟨fr n l,#[q],asg,body,st⟩):=by
    intro H3 st hk he
    have h4:HS F' (lpa (H.fresh 0) ⟨fr n l,#[q],asg,body,.busy⟩::J r.2) H3:=HS.comm (L:=[lpa (H.fresh 0) ⟨fr n l,#[q],asg,body,.busy⟩]) hk.unframed
    refine⟨h4.lp 0 rfl,?_⟩
    have h5:=h4.setl 0 rfl ⟨fr n l,#[q],asg,body,st⟩
    refine HS.pack (M:=lpa (H.fresh 0) ⟨fr n l,#[q],asg,body,if r.1=true then .ready else .done (jump r.2)⟩::J r.2) ?_
    rw[he];simpa using h5
   intro e a3 H3 hk
   cases e with
   |normal=>
    obtain⟨hr,hk⟩:=hk
    obtain⟨b1,b2⟩:=back hk (by rw[if_pos hr])
    exact⟨b1,by rw[hr],b2⟩
   |ret=>
    obtain⟨⟨hr,hj⟩,hk⟩:=hk
    obtain⟨b1,b2⟩:=back hk (by rw[if_neg (by rw[hr];decide)])
    exact⟨b1,by rw[hr],by rw[←hj];exact b2⟩
   |exit i=>
    obtain⟨⟨hr,hj⟩,hk⟩:=hk
    obtain⟨b1,b2⟩:=back hk (by rw[if_neg (by rw[hr];decide)])
    exact⟨b1,by rw[hr],by rw[←hj];exact b2⟩
   |_=>exact hk.elim
  |_=>exact hk.elim
 refine(hit I (H.fresh 0) hY F _ hs1).mono ?_
 rintro v H' ⟨e,hEe,hk⟩
 have h1:HS F (lpa (H.fresh 0) ⟨fr n l,#[q],asg,body,if e.1=true then .ready else .done (jump e.2)⟩::(J e.2++L0)) H':=HS.flat (M:=lpa (H.fresh 0) ⟨fr n l,#[q],asg,body,if e.1=true then .ready else .done (jump e.2)⟩::J e.2) hk
 have h2:HS F (L0++J e.2) (H'.close (H.fresh 0)):=(h1.close 0 rfl).comm
 obtain⟨o1,o2⟩:=hout e hEe _ h2
 have hlp:=h1.lp 0 rfl
 cases he:e.1 with
 |true=>rw[he] at hlp;exact .inl ⟨hlp,o1 he⟩
 |false=>rw[he] at hlp;exact .inr ⟨jump e.2,hlp,o2 he⟩
theorem yl_facts{σ α:Type}{y:σ→α→Option (Bool×σ)}{s s':Bool×σ}{x:α}{b:Bool}(h:yl y s x=some (b,s')): ∃t,s=(true,t)∧y t x=some s'∧b=s'.1:=by
 obtain⟨l,t⟩:=s
 unfold yl at h
 cases l with
 |false=>simp at h
 |true=>
  simp only[if_true,Option.map_eq_some_iff] at h
  obtain⟨r,hr,e⟩:=h
  cases e
  exact⟨t,rfl,hr,rfl⟩
theorem callYS{P:Program}{id:Id}{σ α:Type}{iv:α→IV}{y:σ→α→Option (Bool×σ)}{I:Bool×σ→SA}{F:SA}{L:List SA}{H:Heap}{s s':Bool×σ}{x:α}{b:Bool}{K:IV→Heap→Prop}(hY:YS P id iv y I)(hs:HS F L H)(n:Nat)(hn:L[n]?=some (I s))(hy:yl y s x=some (b,s'))
  (k: ∀H',HS F (I s'::L.eraseIdx n) H'→K (.bool b) H'):YW P id [iv x] H K:=by
 obtain⟨t,rfl,h1,rfl⟩:=yl_facts hy
 have h2:HS F ([I (true,t)]++L.eraseIdx n) H:=hs.turn (M:=[I (true,t)]) n hn fun p h=>star_emp.2 h
 refine(hY t x s' h1 _ _ h2.framed).mono ?_
 rintro v H' ⟨rfl,h3⟩
 exact k H' h3.unframed
end Go.Proofs.Ytoojnagdenoknaa.IL
