/- The layer of owned parts, part 5: the equations by which a walk goes; small rules. Nothing here speaks of a given program. -/
import Derived.Test.YtoojnagdenoknaaQE
set_option linter.unusedSectionVars false
set_option linter.unnecessarySimpa false
set_option linter.unusedVariables false
set_option linter.unusedSimpArgs false
set_option linter.defProp false
set_option maxRecDepth 10000
namespace Go.Proofs.Ytoojnagdenoknaa.IL
open Go Go.RowKit PL
theorem someK_none(m:Mo)(a:Fr)(d:Nat)(v:IV)(H:Heap)(K:IV→Heap→Prop):someK m a d (some (v,.none)) H K=K v H:=by
 cases m<;>simp[someK,okM]
section
variable {F:SA} {L:List SA} {H:Heap}
theorem HS.b{id:Id}{E:Nat}{row:List IV}(hs:HS F L H)(n:Nat)(hn:L[n]?=some (IL.pt id ⟨E,[row]⟩)):(∀o,rowOf H (.pb id 0 o)=some (row,o))∧
  ∀P t o v,istore P H t (.pb id 0 o) v=match tc P t,v.cells with
   |some C,some cs=>if cs.length=C.size∧o+cs.length≤row.length∧(∀x∈cs,x.one=true) then some (.put id ⟨E,[splice row o cs]⟩) else none
   |_,_=>none:=by
 have hg:=hs.pt n hn
 refine⟨fun o=>by simp[rowOf,hg],fun P t o v=>?_⟩
 unfold istore
 cases tc P t with
 |none=>rfl
 |some C=>
  cases hc:v.cells with
  |none=>rfl
  |some cs=>simp only[hg,List.getElem?_cons_zero,List.set_cons_zero]
theorem HS.fold{A:SA}(hs:HS F L H)(is:List Nat)(m:Nat)(hn:is.Nodup)(k: ∀p,Sep ((IL.sel L is).take m) p→A p):HS F (A::(IL.sel L is).drop m) H:=by
 have h:=hs.sel is hn
 rw[←List.take_append_drop m (IL.sel L is)] at h
 exact h.head (N:=[A]) fun p h=>star_emp.2 (k p h)
theorem HS.nil'{α:Type}(R:Rp α)(hs:HS F L H):HS F (IL.sl R .nils []::L) H:=hs.cons' fun p e=> .inl ⟨rfl,rfl,e⟩
end
section
variable {α β:Type} {B:Rp α} {x:α} {c2:List IV} {M:List SA}
theorem fc_i{f:β→List IV}{n:Nat}{hn: ∀x,(f x).length=n}{hc: ∀x,Cl1 (f x)}{g:α→β}(k: ∀p,Sep M p→B.p c2 x p)(p:Part)(h:Sep M p):(Rc (Ri f n hn hc) g B).p (f (g x)++c2) x p:=
 ⟨_,_,rfl,zF (emp_star.2 (k p h)) (fun _ e=>⟨rfl,e⟩) (fun _ h=>h)⟩
theorem fc_s{R:Rp β}{g:α→List β}{w:IV}(k: ∀p,Sep M p→B.p c2 x p)(p:Part)(h:Sep (sl R w (g x)::M) p):(Rc (Rs R) g B).p ([w]++c2) x p:=⟨_,_,rfl,zF h (fun _ h=>h) k⟩
theorem fc_b{R:Rp β}{g:α→β}{w:IV}(k: ∀p,Sep M p→B.p c2 x p)(p:Part)(h:Sep (bx R w (g x)::M) p):(Rc (Rb R) g B).p ([w]++c2) x p:=⟨_,_,rfl,zF h (fun _ h=>h) k⟩
end
section
variable {α:Type} {R:Rp α}
theorem lit_nil(p:Part)(h:Sep [] p):Sep (List.zipWith R.p [] []) p:=h
theorem lit_cons{row:List IV}{x:α}{rows:List (List IV)}{xs:List α}{L1 L2:List SA}(f: ∀p,Sep L1 p→R.p row x p)(k: ∀p,Sep L2 p→Sep (List.zipWith R.p rows xs) p)(p:Part)(h:Sep (L1++L2) p):Sep (List.zipWith R.p (row::rows) (x::xs)) p:=
 zF (Sep_append.1 h) f k
theorem fold_lit{id:Id}{E n:Nat}{rows:List (List IV)}{xs:List α}{L:List SA}(hE:E=R.E)(hl:rows.length=xs.length)(hn:n=xs.length)(k: ∀p,Sep L p→Sep (List.zipWith R.p rows xs) p)(p:Part)(h:Sep (pt id ⟨E,rows⟩::L) p):sl R (.sb id 0 n true) xs p:=by
 subst hE
 refine .inr ⟨id,true,[],rows,[],by simp[hn],hl,?_⟩
 have e:[]++rows++[]=rows:=by simp
 rw[e]
 exact zF h (fun _ h=>h) k
theorem zip_mk{n:Int}{x:α}{xs:List α}{z:List IV}(h:PL.mk n x=some xs)(hz: ∀p,emp p→R.p z x p)(p:Part)(e:emp p):Sep (List.zipWith R.p (List.replicate xs.length z) xs) p:=by
 unfold PL.mk at h
 split at h
 ·cases h
  rw[List.length_replicate]
  exact zip_rep hz _ p e
 ·cases h
theorem fold_l0{v:IV}{xs:List α}{i:Int}{x:α}{id:Id}{r:Nat}{row:List IV}(kx:idx xs i=some x){p:Part}(h:star (hol R v xs id r i.toNat row) (R.p row x) p):sl R v xs p:=by
 obtain⟨h0,h1,h2⟩:=yn kx
 have hs:setI xs i x=some xs:=by
  unfold setI
  rw[if_pos ⟨h0,(List.getElem?_eq_some_iff.1 h2).1⟩]
  congr 1
  apply List.ext_getElem?
  intro q
  by_cases hq:i.toNat=q
  ·subst hq;rw[List.getElem?_set_self (List.getElem?_eq_some_iff.1 h2).1,h2]
  ·rw[List.getElem?_set_ne hq]
 exact fold_l hs h
end
theorem imk_zero{P:Program}{H:Heap}{d:Nat}{t e:TypeId}{C D:TC}{k k':IntKind}{zs:List IV}{α:Type}{z:α}{n:Int}{xs:List α}(ht:tc P t=some C)(hk:C.kd= .slice e)(he:tc P e=some D)(hz:D.zero=some zs)(hE:zs.length=D.size)(hB:D.bytes≤32768)(h:PL.mk n z=some xs):
  imk P H d t (.int k n) (.int k' n)=some (.sb ⟨d,H.next d⟩ 0 xs.length true,.new ⟨D.size,List.replicate xs.length zs⟩):=by
 unfold PL.mk at h
 split at h
 ·rename_i hn
  cases h
  have hb:(D.bytes:Int)*n≤140737488355328:=by
   have h1:(D.bytes:Int)≤32768:=by omega
   exact Int.le_trans (Int.mul_le_mul_of_nonneg_right h1 hn.1) (by omega)
  simp only[imk,imake,ht,hk,he,hz]
  rw[if_pos ⟨hn.1,Int.le_refl _,hb,by omega,hE⟩]
  simp
 ·cases h
inductive Subs:List IV→List IV→Prop
 |nil:Subs [] []
 |cons {v w:IV} {l m:List IV} (h:Sub v w) (k:Subs l m):Subs (v::l) (w::m)
theorem Subs.get{l m:List IV}(h:Subs l m):l.length=m.length∧ ∀(k:Nat) (v w:IV),l[k]?=some v→m[k]?=some w→Sub v w:=by
 induction h with
 |nil=>exact⟨rfl,fun k v w h=>by simp at h⟩
 |cons h k ih=>
  refine⟨by simp[ih.1],fun q v w h1 h2=>?_⟩
  cases q with
  |zero=>simp at h1 h2;subst h1;subst h2;exact h
  |succ q=>exact ih.2 q v w (by simpa using h1) (by simpa using h2)
theorem Sub_agg{l m:List IV}(h:Subs l m):Sub (.agg l) (.agg m):=by
 intro J S u hu
 cases hu with
 |agg hl hV=>
  refine .agg (by rw[←h.get.1];exact hl) fun k w x hw hx=>?_
  have hk:k<l.length:=by rw[h.get.1];exact(List.getElem?_eq_some_iff.1 hw).1
  exact h.get.2 k l[k] w (by simp[hk]) hw J S x (hV k _ x (by simp[hk]) hx)
theorem Subs.vrs{J:Inj}{S:Sure}{l m:List IV}{us:Array Value}(h:Subs l m)(k:VRs J S l us):VRs J S m us:=by
 refine⟨by rw[←h.get.1];exact k.1,fun q w x hw hx=>?_⟩
 have hq:q<l.length:=by rw[h.get.1];exact(List.getElem?_eq_some_iff.1 hw).1
 exact h.get.2 q l[q] w (by simp[hq]) hw J S x (k.2 q _ x (by simp[hq]) hx)
theorem Pure1.sub{P:Program}{f:FuncId}{args args':List IV}{v:IV}(h:Pure1 P f args' v)(hs:Subs args args')(hcl: ∀v∈args,closed v):Pure1 P f args v:=by
 obtain⟨h1,_,h3⟩:=h
 exact⟨h1,hcl,fun S w us hw hw2 ha=>h3 S w us hw hw2 (hs.vrs ha)⟩
theorem CallS.sub{P:Program}{f:FuncId}{args args':List IV}{L:List SA}{K:IV→List SA→Prop}(h:CallS P f args' L K)(hs:Subs args args'):CallS P f args L K:=by
 intro F H hh
 obtain⟨h1,h2⟩:=h F H hh
 exact⟨h1,fun J S w us hH hH2 ha=>h2 J S w us hH hH2 (hs.vrs ha)⟩
theorem closed_fnc{f:Fn}{a b:List IV}(h: ∀v∈a,closed v)(k: ∀v∈b,closed v):closed (.fn f a b):=fun J S u hu=>by
 cases hu with
 |fn h1 h2 hV1 hV2=>exact .fn h1 h2 (fun q v x hv hx=>h v (List.mem_of_getElem? hv) J S x (hV1 q v x hv hx)) (fun q v x hv hx=>k v (List.mem_of_getElem? hv) J S x (hV2 q v x hv hx))
theorem Fz_fn{H:Heap}{f:Fn}{cs cs':List IV}(h:Fzs H cs cs'):Fz H (.fn f [] cs) (.fn f [] cs'):= .fn h.at.1 h.at.2
section
variable {F:SA} {L:List SA} {H:Heap}
theorem Hwf.sub{p q:Part}{H:Heap}(w:Hwf H)(j:Join p q H.part):Hwf (Part.heap q H.next):=by
 refine⟨fun id c hc=>?_,fun id b s hb hs=>?_⟩
 ·rw[kf] at hc
  exact w.lt id c (j.comm.left hc)
 ·simp only[Part.heap] at hb hs
  split at hb
  ·rename_i b' e;rw[e] at hs;cases hs
  ·cases hb
theorem HS.apart{A B:SA}{id id2:Id}(n m:Nat)(hs:HS F L H)(hn:L[n]?=some A)(hm:L[m]?=some B)(hne:n≠m)(ha: ∀p,A p→p id≠none)(hb: ∀p,B p→p id2≠none):id2≠id:=by
 obtain⟨p,q,j,a,_,kk⟩:=hs.out n hn
 have h2:=kk (Part.heap q H.next) (kf _ _) (hs.1.sub j)
 have hm': ∃m':Nat,(L.eraseIdx n)[m']?=some B:=by
  by_cases hl:m<n
  ·exact⟨m,by rw[List.getElem?_eraseIdx_of_lt hl];exact hm⟩
  ·refine⟨m-1,?_⟩
   rw[List.getElem?_eraseIdx_of_ge (by omega),show m-1+1=m by omega];exact hm
 obtain⟨m',hm'⟩:=hm'
 obtain⟨p2,q2,j2,b,_⟩:=h2.out m' hm'
 rw[kf] at j2
 rintro rfl
 have h1:=ha p a
 have h3:=hb p2 b
 cases hp2:p2 id2 with
 |none=>exact h3 hp2
 |some c=>
  have hq:=j2.left hp2
  rcases j id2 with ⟨e1,e2⟩|⟨e1,e2⟩
  ·exact h1 e1
  ·rw[hq] at e1;cases e1
theorem sl_at{α:Type}{R:Rp α}{v:IV}{xs:List α}{id:Id}{i len:Nat}{f:Bool}(hv:v= .sb id i len f)(p:Part)(h:sl R v xs p):p id≠none:=by
 subst hv
 rcases h with ⟨e,_⟩|⟨id',full,pre,rows,post,e,_,p1,p2,j,a,b⟩
 ·cases e
 ·cases e
  rw[j.left (by rw[a id,if_pos rfl])]
  simp
theorem HS.nes{α:Type}{R:Rp α}{v:IV}{xs:List α}{id id2:Id}{i len:Nat}{f:Bool}{b:Blk}(n m:Nat)(hs:HS F L H)(hn:L[n]?=some (sl R v xs))(hm:L[m]?=some (IL.pt id2 b))(hne:n≠m)(hv:v= .sb id i len f):(id2=id)=False:=
 eq_false (hs.apart n m hn hm hne (sl_at hv) fun p h=>by rw[h id2,if_pos rfl];simp)
theorem HS.nev{α β:Type}{R:Rp α}{R2:Rp β}{v v2:IV}{xs:List α}{ys:List β}{id:Id}{i len:Nat}{f:Bool}(n m:Nat)(hs:HS F L H)(hn:L[n]?=some (sl R v xs))(hm:L[m]?=some (sl R2 v2 ys))(hne:n≠m)(hv:v= .sb id i len f):ment v2 id=false:=by
 by_cases hx: ∃id2 i2 l2 f2,v2= .sb id2 i2 l2 f2
 ·obtain⟨id2,i2,l2,f2,e⟩:=hx
  have:=hs.apart n m hn hm hne (sl_at hv) (sl_at e)
  subst e
  simp only[ment_all]
  exact decide_eq_false this
 ·rcases hs.fact m hm (φ:=v2= .nils) (fun p a=>by
   rcases a with ⟨e,_⟩|⟨id',full,pre,rows,post,e,_⟩
   ·exact e
   ·exact(hx ⟨_,_,_,_,e⟩).elim) with rfl
  rfl
end
theorem HS.neh{F:SA}{L:List SA}{H:Heap}{α β:Type}{R:Rp α}{R2:Rp β}{v v2:IV}{xs:List α}{ys:List β}{id id2:Id}{i len:Nat}{f:Bool}{r q:Nat}{row:List IV}(n m:Nat)(hs:HS F L H)(hn:L[n]?=some (sl R v xs))(hm:L[m]?=some (hol R2 v2 ys id2 r q row))(hne:n≠m)(hv:v= .sb id i len f):((id2=id)=False)∧ment v2 id=false:=by
 have h1:id2≠id:=hs.apart n m hn hm hne (sl_at hv) (by
  rintro p ⟨full,pre,rows,post,_,p1,p2,j,a,b⟩
  rw[j.left (by rw[a id2,if_pos rfl])]
  simp)
 refine⟨eq_false h1,?_⟩
 have h2: ∃a b c,v2= .sb id2 a b c:=hs.fact m hm fun p ⟨full,pre,rows,post,h,_⟩=>⟨_,_,_,h.1⟩
 obtain⟨a,b,c,rfl⟩:=h2
 simp only[ment_all]
 exact decide_eq_false h1
def SQ0:=And.intro @callV_yld (And.intro @vcOps_mnew (And.intro @vcOps_look (And.intro @vcOps_mput (And.intro @callY_text (And.intro @putM_text (And.intro @putM_open (And.intro @put_b (And.intro @bin_add (And.intro @bin_and' (And.intro @bin_andNot' (And.intro @bin_eql (And.intro @bin_geq (And.intro @bin_gtr (And.intro @bin_leq (And.intro @bin_lss (And.intro @bin_mul (And.intro @bin_neq (And.intro @bin_or' (And.intro @bin_quo (And.intro @bin_rem (And.intro @bin_seql (And.intro @bin_shl (And.intro @bin_shr (And.intro @bin_sneq (And.intro @bin_sub (And.intro @bin_xor' (And.intro @callV_fn (And.intro @condK_false (And.intro @condK_true (And.intro @ev_bool (And.intro @ev_func (And.intro @ev_int (And.intro @ev_nilf (And.intro @ev_nili (And.intro @ev_nilp (And.intro @ev_nils (And.intro @ev_string (And.intro @ev_tmp (And.intro @heap_fresh (And.intro @inil_pb (And.intro @inil_pim (And.intro @ipart_false (And.intro @ipick_bool (And.intro @one_bool (And.intro @one_fn (And.intro @one_iface (And.intro @one_int (And.intro @one_nilf (And.intro @one_nili (And.intro @one_nilp (And.intro @one_nils (And.intro @one_pb (And.intro @one_pim (And.intro @one_sb (And.intro @one_sim (And.intro @one_str (And.intro @push_open (And.intro @push_text (And.intro @zzL (And.intro @put_n (And.intro @valK_some (And.intro @vcO_drop (And.intro @vcO_drop0 (And.intro @vcO_dropN (And.intro @vcO_take (And.intro @vcO_take0 (And.intro @vcO_takeN (And.intro @vcOps_alloc (And.intro @vcOps_append (And.intro @vcOps_assign (And.intro @vcOps_bin (And.intro @vcOps_box (And.intro @vcOps_bslice (And.intro @vcOps_build (And.intro @vcOps_call (And.intro @vcOps_call0 (And.intro @vcOps_conv (And.intro @vcOps_copy (And.intro @vcOps_ext (And.intro @vcOps_faddr (And.intro @vcOps_func (And.intro @vcOps_guard (And.intro @vcOps_iaddr (And.intro @vcOps_index (And.intro @vcOps_len (And.intro @vcOps_load (And.intro @vcOps_make (And.intro @vcOps_max (And.intro @vcOps_min (And.intro @vcOps_move (And.intro @vcOps_nil (And.intro @zzA (And.intro @vcOps_pick (And.intro @vcOps_slice (And.intro @vcOps_store (And.intro @vcOps_un (And.intro @wantK_false (And.intro @wantK_true (And.intro @u_reads (And.intro @u_ibsl (And.intro @u_ibslice (And.intro @u_Fr_has (And.intro @u_Fr_putO (And.intro @u_gd (And.intro @u_ialloc (And.intro @u_ibox (And.intro @u_iun (And.intro @u_iload (And.intro @rowOf_pim1 (And.intro @u_ifaddr (And.intro @u_iext (And.intro @u_imax (And.intro @u_ibuild (And.intro @u_ibuildK (And.intro @someK_none (And.intro @fr_get (And.intro @fr_n (And.intro @fr_b (And.intro @yN (And.intro @look_nil (And.intro @putO_some (And.intro @opt_none (And.intro @yz (@kB))))))))))))))))))))))))))))))))))))))))))))))))))))))))))))))))))))))))))))))))))))))))))))))))))))))))))))))))))))))))))))
def SQ:=And.intro SQ0 (And.intro S1 (And.intro S2 S3))
def upR(R:List Nat)(o:Oper):Nat:=o.after.toList.foldl (fun m e=>if Region.binds .any e=true then m|||1 <<< e.on|||R.getD e.on 0 else m) 0
theorem upR_bit{R:List Nat}{j:Nat}: ∀(l:List Edge) (m:Nat),(l.foldl (fun m e=>if Region.binds .any e=true then m|||1 <<< e.on|||R.getD e.on 0 else m) m).testBit j=true→m.testBit j=true∨ ∃e∈l,Region.binds .any e=true∧(e.on=j∨(R.getD e.on 0).testBit j=true)
 |[],m,h=> .inl h
 |e::l,m,h=>by
  rw[List.foldl_cons] at h
  rcases upR_bit l _ h with h|⟨e',h1,h2⟩
  ·split at h
   ·rename_i hb
    rw[Nat.testBit_or,Nat.testBit_or,Bool.or_eq_true,Bool.or_eq_true] at h
    rcases h with (h|h)|h
    ·exact .inl h
    ·refine .inr ⟨e,by simp,hb,.inl ?_⟩
     rw[Nat.one_shiftLeft,Nat.testBit_two_pow] at h
     simpa using h
    ·exact .inr ⟨e,by simp,hb,.inr h⟩
   ·exact .inl h
  ·exact .inr ⟨e',by simp[h1],h2⟩
def drawQ(R:List Nat)(s:Bool)(n':Nat)(ops:Array Oper):Bool:=
 (List.range ops.size).all fun i=>match ops[i]? with
  |none=>false
  |some oi=>(R.getD i 0|||upR R oi==upR R oi)&&
   (oi.after.all fun e=>!Region.binds .any e||decide (e.on<i))&&
   (if i<n' then
    ((List.range i).all fun j=>match ops[j]? with
     |none=>false
     |some oj=>
      (match oj.dst with
       |some d=>oi.dst !=some d&&(!(oi.looksAt ops).contains d||waitsFor oi j)
       |none=>true)&&
      (match oi.dst with
       |some d=>!(oj.looksAt ops).contains d
       |none=>true)&&
      (!((!s&&isSt oi.op&&reads oj.op)||(isSt oj.op&&reads oi.op))||(R.getD i 0).testBit j))&&
    (match oi.dst with
     |some d=>!(oi.looksAt ops).contains d
     |none=>true)
   else(List.range i).all fun j=>(R.getD i 0).testBit j)
theorem waitsT_mono{ops:Array Oper}{j:Nat}: ∀(n:Nat) (o:Oper),waitsT ops n o j=true→waitsT ops (n+1) o j=true
 |0,_,h=>by cases h
 |n+1,o,h=>by
  rw[waitsT,Bool.or_eq_true] at h ⊢
  refine h.imp id fun h=>?_
  rw[Array.any_eq_true] at h ⊢
  obtain⟨i,hi,he⟩:=h
  refine⟨i,hi,?_⟩
  rw[Bool.and_eq_true] at he ⊢
  refine⟨he.1,?_⟩
  have h2:=he.2
  split at h2
  ·rename_i oe hoe
   exact waitsT_mono n oe h2
  ·cases h2
theorem waitsT_le{ops:Array Oper}{j n m:Nat}{o:Oper}(h:waitsT ops n o j=true)(hm:n≤m):waitsT ops m o j=true:=by
 induction hm with
 |refl=>exact h
 |step _ ih=>exact waitsT_mono _ _ ih
theorem zzH{R:List Nat}{ops:Array Oper}(hR: ∀(i:Nat) (oi:Oper),ops[i]?=some oi→(R.getD i 0|||upR R oi)=upR R oi∧ ∀e∈oi.after,Region.binds .any e=true→e.on<i):
  ∀(k i:Nat),i<k→ ∀(oi:Oper) (j:Nat),ops[i]?=some oi→(R.getD i 0).testBit j=true→waitsT ops (i+1) oi j=true
 |0,i,h,_,_,_,_=>by omega
 |k+1,i,hk,oi,j,hoi,hb=>by
  obtain⟨h1,h2⟩:=hR i oi hoi
  have hu:(upR R oi).testBit j=true:=by
   rw[←h1,Nat.testBit_or,hb,Bool.true_or]
  rcases upR_bit _ _ hu with h|⟨e,he,hbd,h⟩
  ·simp at h
  ·have he':e∈oi.after:=Array.mem_toList_iff.1 he
   rw[waitsT,Bool.or_eq_true]
   rcases h with h|h
   ·left
    unfold waitsFor
    rw[Array.any_eq_true]
    obtain⟨q,hq,hqe⟩:=Array.getElem_of_mem he'
    exact⟨q,hq,by rw[hqe];simp[hbd,h]⟩
   ·right
    rw[Array.any_eq_true]
    obtain⟨q,hq,hqe⟩:=Array.getElem_of_mem he'
    refine⟨q,hq,?_⟩
    rw[hqe,hbd,Bool.true_and]
    have hlt:=h2 e he' hbd
    have hsz:i<ops.size:=(Array.getElem?_eq_some_iff.1 hoi).1
    have hoe:ops[e.on]?=some ops[e.on]:=by simp[show e.on<ops.size by omega]
    rw[hoe]
    exact waitsT_le (zzH hR k e.on (by omega) _ j hoe h) (by omega)
theorem drawQ_ok{R:List Nat}{s:Bool}{n':Nat}{ops:Array Oper}(h:drawQ R s n' ops=true):drawOk s n' ops=true:=by
 have h':=h
 unfold drawQ at h'
 rw[List.all_eq_true] at h'
 have hR: ∀(i:Nat) (oi:Oper),ops[i]?=some oi→(R.getD i 0|||upR R oi)=upR R oi∧ ∀e∈oi.after,Region.binds .any e=true→e.on<i:=by
  intro i oi hoi
  have hsz:i<ops.size:=(Array.getElem?_eq_some_iff.1 hoi).1
  have q:=h' i (by simpa using hsz)
  rw[hoi] at q
  simp only[Bool.and_eq_true,beq_iff_eq] at q
  refine⟨q.1.1,fun e he hb=>?_⟩
  have:=Array.all_eq_true_iff_forall_mem.1 q.1.2 e he
  simpa [hb] using this
 have hw: ∀(i:Nat) (oi:Oper) (j:Nat),ops[i]?=some oi→(R.getD i 0).testBit j=true→waitsT ops ops.size oi j=true:=by
  intro i oi j hoi hb
  have hsz:i<ops.size:=(Array.getElem?_eq_some_iff.1 hoi).1
  exact waitsT_le (zzH hR (i+1) i (by omega) oi j hoi hb) (by omega)
 unfold drawOk
 rw[List.all_eq_true]
 intro i hi
 have q:=h' i hi
 have hsz:i<ops.size:=by simpa using hi
 have hoi:ops[i]?=some ops[i]:=by simp[hsz]
 rw[hoi] at q ⊢
 simp only[Bool.and_eq_true] at q ⊢
 refine⟨q.1.2,?_⟩
 have q2:=q.2
 by_cases hn:i<n'
 ·rw[if_pos hn] at q2 ⊢
  simp only[Bool.and_eq_true] at q2 ⊢
  refine⟨?_,by have:=q2.2;revert this;cases ops[i].dst<;>exact fun h=>h⟩
  rw[List.all_eq_true] at q2 ⊢
  intro j hj
  have w:=q2.1 j hj
  have hj':j<i:=by simpa using hj
  have hoj:ops[j]?=some ops[j]:=by simp[show j<ops.size by omega]
  rw[hoj] at w ⊢
  simp only[Bool.and_eq_true] at w ⊢
  refine⟨by have:=w.1;revert this;cases ops[j].dst<;>cases ops[i].dst<;>exact fun h=>h,?_⟩
  have w2:=w.2
  rw[Bool.or_eq_true] at w2 ⊢
  rcases w2 with w2|w2
  ·exact .inr w2
  ·exact .inl (hw i _ j hoi w2)
 ·rw[if_neg hn] at q2 ⊢
  rw[List.all_eq_true] at q2 ⊢
  exact fun j hj=>hw i _ j hoi (q2 j hj)
theorem yD{P:Program}{K:Fr→Heap→Prop}{R:Fr→Heap→Prop}{X:List (Nat×(Fr→Heap→Prop))}{a:Fr}{H:Heap}(hm:P.follows .mixedOrders=true)(T:List Nat)(s:Bool)(n':Nat){id:Nat}{l:List Oper}(h:drawQ T s n' l.toArray=true)(hn:n'≤l.length)
  (k:vcO P l.toArray (some (s,[])) (l.take n') (fun a H=>vcO P l.toArray none (l.drop n') (hold K) a H) a H):W P (.region id l.toArray true) (outs K R X) a H:=U_draw hm s n' (drawQ_ok h) hn k
end Go.Proofs.Ytoojnagdenoknaa.IL
