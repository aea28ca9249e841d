/- The pure layer, part 0: code by its ends; what is kept; growing lists. Nothing here speaks of a given program. -/
import Derived.Test.YtoojnagdenoknaaIL19
import Derived.Test.YtoojnagdenoknaaPL
set_option linter.unusedSectionVars false
set_option linter.unnecessarySimpa false
set_option linter.unusedVariables false
set_option linter.unusedSimpArgs false
namespace Go.Proofs.Ytoojnagdenoknaa.IL
open Go Go.RowKit PL
def outs(K R:Fr→Heap→Prop)(X:List (Nat×(Fr→Heap→Prop))):Exit→Fr→Heap→Prop
 | .normal,a,H=>K a H
 | .ret,a,H=>R a H
 | .exit i,a,H=>match X.lookup i with
  |some K=>K a H
  |none=>False
 |_,_,_=>False
def hold(K:Fr→Heap→Prop)(a:Fr)(H:Heap):Prop:=K a H
theorem hold_congr{K:Fr→Heap→Prop}{a:Fr}{H:Heap}{p0:Prop}(hx:(True∧True)=p0):hold K a H=hold K a H:=rfl
attribute [congr] hold_congr
theorem zA{K:Fr→Heap→Prop}{a:Fr}{H:Heap}(h:K a H):hold K a H:=h
section rules
variable {P:Program} {K R:Fr→Heap→Prop} {X:List (Nat×(Fr→Heap→Prop))} {a:Fr} {H:Heap}
theorem U_mono{c:Code}{K':Fr→Heap→Prop}(h:W P c (outs K R X) a H)(k: ∀a H,K a H→K' a H):W P c (outs K' R X) a H:=
 h.mono fun e a H q=>by cases e<;>first|exact k _ _ q|exact q
theorem zB{x y:Code}(h:W P x (outs (fun a H=>W P y (outs K R X) a H) R X) a H):W P (.seq x y) (outs K R X) a H:=
 W_seq (h.mono fun e a H q=>by cases e<;>exact q)
theorem zf{c:Code}(J:Fr→Heap→Prop)(h:W P c (outs J R X) a H)(k: ∀a H,J a H→K a H):W P c (outs K R X) a H:=U_mono h k
theorem zP(h:K a H):W P .skip (outs K R X) a H:=W_skip h
theorem zW(h:R a H):W P .ret (outs K R X) a H:=W_ret h
theorem zq{i:Nat}{K':Fr→Heap→Prop}(hl:X.lookup i=some K')(h:K' a H):W P (.exit i) (outs K R X) a H:=W_exit (by simp only[outs,hl];exact h)
theorem zN{id:Nat}{c:Code}(h:W P c (outs K R ((id,K)::X)) a H):W P (.block id c) (outs K R X) a H:=by
 refine W_block (h.mono fun e a H q=>?_)
 cases e with
 |exit i=>
  simp only[outs,List.lookup,blockK] at q ⊢
  by_cases hi:i=id
  ·subst hi;simpa using q
  ·have hb:(i==id)=false:=by simpa using hi
   rw[hb] at q
   rw[if_neg hi]
   exact q
 |_=>exact q
theorem zO{c:Operand}{x y:Code}(hc:a.ev c= .bool true)(h:W P x (outs K R X) a H):W P (.cond c x y) (outs K R X) a H:=W_cond hc (fun _=>h) (fun e=>by cases e)
theorem zK{c:Operand}{x y:Code}(hc:a.ev c= .bool false)(h:W P y (outs K R X) a H):W P (.cond c x y) (outs K R X) a H:=W_cond hc (fun e=>by cases e) (fun _=>h)
theorem zt{α:Type}(I:α→Fr→Heap→Prop)(μ:α→Nat)(x0:α){c:Code}(h0:I x0 a H)(hr: ∀x a H,I x a H→W P c (outs (fun a H=> ∃y,μ y<μ x∧I y a H) R X) a H):W P (.loop c) (outs K R X) a H:=
 W_loop I μ x0 h0 fun x a H hI=>(hr x a H hI).mono fun e a H q=>by cases e<;>exact q
theorem zD{id:Nat}{l:List Oper}(h:vcO P l.toArray none l (hold K) a H):W P (.region id l.toArray false) (outs K R X) a H:=W_region (yd _ _ _ h)
theorem U_draw(hm:P.follows .mixedOrders=true)(s:Bool)(n':Nat){id:Nat}{l:List Oper}(h:drawOk s n' l.toArray=true)(hn:n'≤l.length)
  (k:vcO P l.toArray (some (s,[])) (l.take n') (fun a H=>vcO P l.toArray none (l.drop n') (hold K) a H) a H):W P (.region id l.toArray true) (outs K R X) a H:=
 kO hm _ _ _ _ (draw_at s n' h hn k)
theorem zT (b : Nat) {f : FuncId} {fn : Func} {c : Code} {args : List IV} {K : IV → Heap → Prop} (hf : P.funcs[f]? = some fn) (hb : fn.body = some c) (hname : (fn.name == "runtime.NumGoroutine") = false) (hn : args.length ≤ fn.ntmps)
  (h:W P c (outs (fun a H=> ∃v,ires P fn a H=some v∧K v H) (fun a H=> ∃v,ires P fn a H=some v∧K v H) []) (fr0 fn.ntmps b args) H):CallW P f args H K:=
 CallW_intro b hf hb hname hn (h.mono fun e a H q=>by cases e<;>first|exact q|exact q.elim)
end rules
def Kp(ks:List Nat)(n:Nat)(a' a:Fr):Prop:=(a'.n=a.n∧a'.b=a.b)∧ ∀t,t<n→t∉ks→a'.get t=a.get t
theorem Kp_refl(ks:List Nat)(n:Nat)(a:Fr):Kp ks n a a=True:=eq_true ⟨⟨rfl,rfl⟩,fun _ _ _=>rfl⟩
theorem Kp_step{ks ks0:List Nat}{n:Nat}{a a0 x:Fr}(h:Kp ks0 n a a0)(hs: ∀t∈ks0,t∈ks):Kp ks n a x=Kp ks n a0 x:=by
 refine propext ⟨fun k=>⟨⟨h.1.1.symm.trans k.1.1,h.1.2.symm.trans k.1.2⟩,fun t h1 h2=>?_⟩,fun k=>⟨⟨h.1.1.trans k.1.1,h.1.2.trans k.1.2⟩,fun t h1 h2=>?_⟩⟩
 ·rw[←h.2 t h1 (fun e=>h2 (hs t e)),k.2 t h1 h2]
 ·rw[h.2 t h1 (fun e=>h2 (hs t e)),k.2 t h1 h2]
theorem Kp_hi{ks:List Nat}{n d:Nat}{v:IV}{a x:Fr}(h:n≤d):Kp ks n (a.put d v) x=Kp ks n a x:=by
 refine Kp_step (ks0:=[]) ⟨⟨rfl,rfl⟩,fun t h1 _=>?_⟩ (by simp)
 rw[zzL,if_neg (by omega)]
theorem Kp_in{ks:List Nat}{n d:Nat}{v:IV}{a x:Fr}(h:d∈ks):Kp ks n (a.put d v) x=Kp ks n a x:=by
 refine Kp_step (ks0:=[d]) ⟨⟨rfl,rfl⟩,fun t h1 h2=>?_⟩ (by simpa using h)
 rw[zzL,if_neg (by simpa using h2)]
theorem Kp.at{ks:List Nat}{n:Nat}{a a0:Fr}(h:Kp ks n a a0){t:Nat}(h1:t<n)(h2:t∉ks):a.get t=a0.get t:=h.2 t h1 h2
def KH(ks:List Nat)(H' H:Heap):Prop:= ∀id,id.k∉ks→H'.get id=H.get id∧H'.loop id=H.loop id
theorem KH_refl(ks:List Nat)(H:Heap):KH ks H H=True:=eq_true fun _ _=>⟨rfl,rfl⟩
theorem KH_step{ks ks0:List Nat}{H H0 X:Heap}(h:KH ks0 H H0)(hs: ∀t∈ks0,t∈ks):KH ks H X=KH ks H0 X:=
 propext ⟨fun k id h1=>⟨(h id (fun e=>h1 (hs _ e))).1.symm.trans (k id h1).1,(h id (fun e=>h1 (hs _ e))).2.symm.trans (k id h1).2⟩,fun k id h1=>⟨(h id (fun e=>h1 (hs _ e))).1.trans (k id h1).1,(h id (fun e=>h1 (hs _ e))).2.trans (k id h1).2⟩⟩
theorem kh_new{k:Nat}{b:Blk}{H:Heap}:KH [k] (H.new k b) H:=fun id h=>by
 have e: ¬id=⟨k,H.next k⟩:=by intro e;subst e;exact h (by simp)
 exact⟨by simp[e],rfl⟩
theorem kh_put{id:Id}{b:Blk}{H:Heap}:KH [id.k] (H.put id b) H:=fun j h=>by
 have e: ¬j=id:=by intro e;subst e;exact h (by simp)
 exact⟨by simp[e],rfl⟩
theorem kh_del{id:Id}{H:Heap}:KH [id.k] (H.del id) H:=fun j h=>by
 have e: ¬j=id:=by intro e;subst e;exact h (by simp)
 exact⟨by simp[e],rfl⟩
theorem KH_new{ks:List Nat}{k:Nat}{b:Blk}{H X:Heap}(h:k∈ks):KH ks (H.new k b) X=KH ks H X:=KH_step kh_new (by simpa using h)
theorem KH_put{ks:List Nat}{id:Id}{b:Blk}{H X:Heap}(h:id.k∈ks):KH ks (H.put id b) X=KH ks H X:=KH_step kh_put (by simpa using h)
theorem KH_del{ks:List Nat}{id:Id}{H X:Heap}(h:id.k∈ks):KH ks (H.del id) X=KH ks H X:=KH_step kh_del (by simpa using h)
theorem KH.at{ks:List Nat}{H H0:Heap}(h:KH ks H H0){k g:Nat}(hk:k∉ks):H.get ⟨k,g⟩=H0.get ⟨k,g⟩:=(h _ hk).1
def Same(D:List Nat)(H' H:Heap):Prop:= ∀id,id.k∈D→H'.get id=H.get id
theorem Same_refl(D:List Nat)(H:Heap):Same D H H=True:=eq_true fun _ _=>rfl
theorem Same_step{D ks:List Nat}{H H0 X:Heap}(h:KH ks H H0)(hd: ∀d∈D,d∉ks):Same D H X=Same D H0 X:=
 propext ⟨fun k id h1=>(h id (hd _ h1)).1.symm.trans (k id h1),fun k id h1=>(h id (hd _ h1)).1.trans (k id h1)⟩
theorem Same_new{D:List Nat}{k:Nat}{b:Blk}{H X:Heap}(h:k∉D):Same D (H.new k b) X=Same D H X:=Same_step kh_new (fun d hd e=>h (by simp at e;exact e▸hd))
theorem Same_put{D:List Nat}{id:Id}{b:Blk}{H X:Heap}(h:id.k∉D):Same D (H.put id b) X=Same D H X:=Same_step kh_put (fun d hd e=>h (by simp at e;exact e▸hd))
theorem Same_del{D:List Nat}{id:Id}{H X:Heap}(h:id.k∉D):Same D (H.del id) X=Same D H X:=Same_step kh_del (fun d hd e=>h (by simp at e;exact e▸hd))
def Own(D:List Nat)(H:Heap)(v:IV)(E:Nat)(rows:List (List IV)):Prop:=
 (v= .nils∧rows=[])∨ ∃id i full b,id.k∈D∧v= .sb id i rows.length full∧H.get id=some b∧b.E=E∧i+rows.length≤b.rows.length∧(b.rows.drop i).take rows.length=rows
theorem Own.nil{D:List Nat}{H:Heap}{E:Nat}:Own D H .nils E []:= .inl ⟨rfl,rfl⟩
theorem Own.mk{D:List Nat}{H:Heap}{E:Nat}{rows:List (List IV)}{id:Id}{n:Nat}{full:Bool}(hd:id.k∈D)(hn:n=rows.length)(hb:H.get id=some ⟨E,rows⟩):Own D H (.sb id 0 n full) E rows:=
 .inr ⟨id,0,full,_,hd,by rw[hn],hb,rfl,by simp,by simp⟩
theorem Own.same{D:List Nat}{H H':Heap}{v:IV}{E:Nat}{rows:List (List IV)}(h:Own D H v E rows)(k:Same D H' H):Own D H' v E rows:=by
 rcases h with h|⟨id,i,full,b,h1,h2,h3,h4⟩
 ·exact .inl h
 ·exact .inr ⟨id,i,full,b,h1,h2,by rw[k id h1];exact h3,h4⟩
theorem Own.sub{D D':List Nat}{H:Heap}{v:IV}{E:Nat}{rows:List (List IV)}(h:Own D H v E rows)(k: ∀d∈D,d∈D'):Own D' H v E rows:=by
 rcases h with h|⟨id,i,full,b,h1,h2,h3,h4⟩
 ·exact .inl h
 ·exact .inr ⟨id,i,full,b,k _ h1,h2,h3,h4⟩
theorem Own.rd{D:List Nat}{H:Heap}{v:IV}{E:Nat}{rows:List (List IV)}(h:Own D H v E rows):srows H E v=some rows:=by
 rcases h with ⟨rfl,rfl⟩|⟨id,i,full,b,h1,rfl,h3,h4,h5,h6⟩
 ·rfl
 ·simp only[srows,h3]
  rw[if_pos ⟨h4,h5⟩,h6]
theorem Own.fz{D:List Nat}{H:Heap}{v:IV}{E:Nat}{rows:List (List IV)}(h:Own D H v E rows)(hc: ∀r∈rows,∀x∈r,closed x):Fz H v (.sim rows false):=by
 rcases h with ⟨rfl,rfl⟩|⟨id,i,full,b,h1,rfl,h3,h4,h5,h6⟩
 ·exact .nils
 ·exact Fz_sb h3 h6 h5 hc
theorem Own.len{P:Program}{t e:TypeId}{C:TC}{D:List Nat}{H:Heap}{v:IV}{E:Nat}{rows:List (List IV)}(h:Own D H v E rows)(ht:tc P t=some C)(hk:C.kd= .slice e):ilen P t v=some (.int .i64 (rows.length:Int)):=by
 rcases h with ⟨rfl,rfl⟩|⟨id,i,full,b,h1,rfl,h3,h4,h5,h6⟩
 ·simp[ilen,ht,hk]
 ·simp[ilen,ht,hk]
theorem Own.at{P:Program}{t e:TypeId}{C A:TC}{D:List Nat}{H:Heap}{v:IV}{E:Nat}{rows:List (List IV)}{k:IntKind}{j:Int}{row:List IV}(h:Own D H v E rows)(ht:tc P t=some C)(hk:C.kd= .slice e)(he:tc P e=some A)(hE:A.size=E)
  (h0:0≤j) (hr:rows[j.toNat]?=some row):
  ∃id r,id.k∈D∧(∀H',Same D H' H→iiaddr P H' t v (.int k j)=some (.pb id r 0)∧(∀o,rowOf H' (.pb id r o)=some (row,o))∧ ∃b,H'.get id=some b∧b.rows[r]?=some row∧b.E=E∧ ∀row',Own D (H'.put id ⟨b.E,b.rows.set r row'⟩) v E (rows.set j.toNat row')):=by
 have hj:j.toNat<rows.length:=(List.getElem?_eq_some_iff.1 hr).1
 rcases h with ⟨rfl,rfl⟩|⟨id,i,full,b,h1,rfl,h3,h4,h5,h6⟩
 ·simp at hj
 ·have hrow:b.rows[i+j.toNat]?=some row:=by
   have:=hr
   rw[←h6,List.getElem?_take,if_pos hj,List.getElem?_drop] at this
   exact this
  refine⟨id,i+j.toNat,h1,fun H' hs=>?_⟩
  have h3':H'.get id=some b:=by rw[hs id h1];exact h3
  refine⟨?_,fun o=>?_,b,h3',hrow,h4,fun row'=> .inr ⟨id,i,full,⟨b.E,b.rows.set (i+j.toNat) row'⟩,h1,by simp,?_,h4,by simpa using h5,?_⟩⟩
  ·simp only[iiaddr,ht,hk,he,h3']
   rw[if_pos ⟨h0,by omega,by rw[hE];exact h4⟩]
  ·simp only[rowOf,h3',Option.bind_some,hrow,Option.map_some]
  ·simp
  ·simp only[List.length_set]
   apply List.ext_getElem?
   intro q
   rw[List.getElem?_take]
   by_cases hq:q<rows.length
   ·rw[if_pos hq,List.getElem?_drop]
    by_cases hjq:j.toNat=q
    ·subst hjq
     rw[List.getElem?_set_self (by omega),List.getElem?_set_self hj]
    ·rw[List.getElem?_set_ne (by omega),List.getElem?_set_ne hjq]
     have:rows[q]?=((b.rows.drop i).take rows.length)[q]?:=by rw[h6]
     rw[this,List.getElem?_take,if_pos hq,List.getElem?_drop]
   ·rw[if_neg hq,List.getElem?_eq_none (by simp;omega)]
theorem Own.app{P:Program}{a:Fr}{d ds:Nat}{t tx e e':TypeId}{C C' A:TC}{zs:List IV}{D:List Nat}{H:Heap}{s x:IV}{E:Nat}{old new:List (List IV)}{K:IV→Heap→Prop}
  (h:Own D H s E old) (hs:a.b+d=ds) (hd:ds∈D) (ht:tc P t=some C) (hk:C.kd= .slice e) (htx:tc P tx=some C') (hk':C'.kd= .slice e') (he:tc P e=some A) (hz:A.zero=some zs) (hE:A.size=E) (h1:zs.length=E) (hB:A.bytes≤32768)
  (hx:srows H E x=some new) (h2:old.length+new.length≤4294967296) (h4: ∀r∈new,∀v∈r,v.one=true)
  (k: ∀v H',Own D H' v E (old++new)→KH D H' H→K v H'):someK none a d (iapp P H ds t tx s x) H K:=by
 subst hs
 subst hE
 have ho:=h.rd
 have hb2:(old.length+new.length)*A.bytes≤140737488355328:=Nat.le_trans (Nat.mul_le_mul h2 hB) (by decide)
 by_cases hn:new.length=0
 ·have:new=[]:=List.length_eq_zero_iff.1 hn
  subst this
  simp only[iapp,ht,htx,hk,hk',he,hz,hx,ho]
  rw[if_pos hn]
  exact⟨trivial,k _ _ (by simpa using h) (fun _ _=>⟨rfl,rfl⟩)⟩
 have hcond:zs.length=A.size∧(old.length+new.length)*A.bytes≤140737488355328∧old.length+new.length≤140737488355328∧ ∀r∈new,∀v∈r,v.one=true:=⟨h1,hb2,by omega,h4⟩
 rcases h with ⟨rfl,rfl⟩|⟨id,i,full,b,g1,rfl,g3,g4,g5,g6⟩
 ·simp only[iapp,ht,htx,hk,hk',he,hz,hx,ho]
  rw[if_neg hn,if_pos hcond]
  exact⟨trivial,k _ _ (Own.mk hd (by simp) (by simp)) (fun j hj=>kh_new j (by simp;intro e;exact hj (by rw[e];exact hd)))⟩
 ·cases full with
  |true=>
   simp only[iapp,ht,htx,hk,hk',he,hz,hx,ho]
   rw[if_neg hn,if_pos hcond]
   exact⟨trivial,k _ _ (Own.mk hd (by simp) (by simp)) (fun j hj=>kh_new j (by simp;intro e;exact hj (by rw[e];exact hd)))⟩
  |false=>
   simp only[iapp,ht,htx,hk,hk',he,hz,hx,ho]
   rw[if_neg hn,if_pos hcond]
   refine⟨trivial,k _ _ (Own.mk hd (by simp) (by simp)) (fun j hj=>?_)⟩
   simp only[app_move]
   refine⟨?_,rfl⟩
   rw[(kh_new j (by simp;intro e;exact hj (by rw[e];exact hd))).1,(kh_del j (by simp;intro e;exact hj (e▸g1))).1]
theorem Own.slice{P:Program}{t e:TypeId}{C A:TC}{D:List Nat}{H:Heap}{v:IV}{E:Nat}{rows:List (List IV)}{lo hi:Option IV}{l h:Nat}(o:Own D H v E rows)(ht:tc P t=some C)(hk:C.kd= .slice e)(he:tc P e=some A)(hE:A.size=E)
  (hb:ibnd lo hi none rows.length=some (l,h,none)): ∃v',(∀H',Same D H' H→islice P H' t v lo hi none=some v')∧Own D H v' E ((rows.drop l).take (h-l)):=by
 obtain⟨b1,b2,_⟩:=ko hb
 rcases o with ⟨rfl,rfl⟩|⟨id,i,full,b,g1,rfl,g3,g4,g5,g6⟩
 ·refine⟨.nils,fun H' _=>?_,?_⟩
  ·simp only[islice,ht,hk,he]
   rw[show(0:Nat)=([]:List (List IV)).length from rfl,hb]
  ·simpa using Own.nil
 ·refine⟨.sb id (i+l) (h-l) (fullOf full h rows.length none),fun H' hs=>?_,.inr ⟨id,i+l,fullOf full h rows.length none,b,g1,?_,g3,g4,?_,?_⟩⟩
  ·simp only[islice,ht,hk,he,hb,hs id g1,g3]
   rw[if_pos (by rw[hE];exact g4)]
  ·simp only[List.length_take,List.length_drop]
   rw[show min (h-l) (rows.length-l)=h-l by omega]
  ·simp only[List.length_take,List.length_drop];omega
  ·simp only[List.length_take,List.length_drop]
   rw[show min (h-l) (rows.length-l)=h-l by omega]
   conv=>rhs;rw[←g6]
   rw[List.drop_take,List.take_take,List.drop_drop]
   congr 1
   omega
theorem ze{P:Program}{t e:TypeId}{C A:TC}{α:Type}{f:α→List IV}{xs:List α}{x:α}{fl:Bool}{k:IntKind}{j:Int}(ht:tc P t=some C)(hk:C.kd= .slice e)(he:tc P e=some A)(h:idx xs j=some x)(hE:(f x).length=A.size)(H:Heap):
  iiaddr P H t (.sim (xs.map f) fl) (.int k j)=some (.pim (xs.map f) j.toNat 0):=by
 obtain⟨h0,h1,h2⟩:=yn h
 simp only[iiaddr,ht,hk,he,List.length_map]
 rw[if_pos ⟨h0,h1⟩,if_pos (by simp[List.getD_eq_getElem?_getD,h2,hE])]
theorem zb{α:Type}{f:α→List IV}{xs:List α}{x:α}{j:Int}(h:idx xs j=some x)(H:Heap)(o:Nat):rowOf H (.pim (xs.map f) j.toNat o)=some (f x,o):=by
 obtain⟨h0,h1,h2⟩:=yn h
 simp[rowOf,h2]
end Go.Proofs.Ytoojnagdenoknaa.IL
