/- The ideal logic, part 16: code as conditions, step by step. Nothing here speaks of a given program. -/
import Derived.Test.YtoojnagdenoknaaIL15
set_option linter.unusedSectionVars false
set_option linter.unnecessarySimpa false
set_option linter.unusedVariables false
set_option linter.unusedSimpArgs false
namespace Go.Proofs.Ytoojnagdenoknaa.IL
open Go Go.RowKit
def preK(P:Program)(ops:Array Oper)(prev:List Nat)(o:Oper)(a:Fr)(H:Heap)(K:IV→Heap→Prop):Prop:=
 match iop P o a H with
 |some (v,e)=>okEff ops prev o a e∧K v (e.app H (a.b+o.dst.getD 0))
 |none=>match o.op with
  | .call c=>match icallee a c with
   |some (f,args)=> ∃v,Pure1 P f args v∧K v H
   |none=>False
  |_=>False
def vcPreC(P:Program)(ops:Array Oper):List Nat→List Nat→(Fr→Heap→Prop)→Fr→Heap→Prop
 |_,[],K,a,H=>K a H
 |prev,i::rest,K,a,H=>match ops[i]? with
  |none=>False
  |some o=>a.has o.dst=true∧wantK (iwant ops o a) (preK P ops prev o a H fun v H'=>vcPreC P ops (prev++[i]) rest K (a.putO o.dst v) H') (vcPreC P ops (prev++[i]) rest K (a.putO o.dst (.tup [])) H)
theorem kE{P:Program}{ops:Array Oper}{K:Fr→Heap→Prop}: ∀(rest prev:List Nat) (a:Fr) (H:Heap),vcPreC P ops prev rest K a H→vcPre P ops prev rest K a H
 |[],_,_,_,h=>h
 |i::rest,prev,a,H,h=>by
  unfold vcPreC at h
  split at h
  ·exact h.elim
  ·rename_i o ho
   obtain⟨hd,h⟩:=h
   unfold wantK at h
   split at h
   ·rename_i hw
    unfold preK at h
    split at h
    ·rename_i v e he
     exact⟨o,v,_,ho,⟨hd,.inr ⟨hw,.inl ⟨e,he,h.1,rfl⟩⟩⟩,kE rest _ _ _ h.2⟩
    ·rename_i hn
     split at h
     ·rename_i c hc
      split at h
      ·rename_i f args hcal
       obtain⟨v,hp,h⟩:=h
       exact⟨o,v,_,ho,⟨hd,.inr ⟨hw,.inr ⟨hn,rfl,c,f,args,hc,hcal,hp⟩⟩⟩,kE rest _ _ _ h⟩
      ·exact h.elim
     ·exact h.elim
   ·rename_i hw
    exact⟨o,.tup [],H,ho,⟨hd,.inl ⟨hw,rfl,rfl⟩⟩,kE rest _ _ _ h⟩
   ·exact h.elim
abbrev Mo:=Option (Bool×List Operand)
def Mo.push(m:Mo)(o:Op):Mo:=m.map fun p=>if reads o then(p.1,p.2++o.operands.toList) else p
def okM(m:Mo)(d:Option Tmp)(a:Fr)(e:Eff):Prop:=
 match m with
 |none=>True
 |some prev=>match e with
  | .none=>True
  | .new _=>d.isSome=true
  | .move id _=>d.isSome=true∧ ∀x∈prev.2,ment (a.ev x) id=false
  | .put id _=>prev.1=true→ ∀x∈prev.2,ment (a.ev x) id=false
def callM(P:Program)(m:Mo)(f:FuncId)(args:List IV)(H:Heap)(K:IV→Heap→Prop):Prop:=
 match m with
 |none=>CallW P f args H K
 |some _=> ∃v,Pure1 P f args v∧K v H
def callY(P:Program)(m:Mo)(id:Id)(args:List IV)(H:Heap)(K:IV→Heap→Prop):Prop:=
 match m with
 |none=>YW P id args H K
 |some _=>False
def stepM(P:Program)(m:Mo)(o:Oper)(a:Fr)(H:Heap)(K:IV→Heap→Prop):Prop:=
 match iop P o a H with
 |some (v,e)=>okM m o.dst a e∧K v (e.app H (a.b+o.dst.getD 0))
 |none=>match o.op with
  | .call c=>match icallee a c with
   |some (f,args)=>callM P m f args H K
   |none=>match iyield a c with
    |some (id,args)=>callY P m id args H K
    |none=>False
  |_=>False
def vcO(P:Program)(ops:Array Oper):Mo→List Oper→(Fr→Heap→Prop)→Fr→Heap→Prop
 |_,[],K,a,H=>K a H
 |m,o::rest,K,a,H=>a.has o.dst=true∧wantK (iwant ops o a) (stepM P m o a H fun v H'=>vcO P ops (m.push o.op) rest K (a.putO o.dst v) H') (vcO P ops (m.push o.op) rest K (a.putO o.dst (.tup [])) H)
theorem kj{w:Option Bool}{A A' B B':Prop}(h1:A→A')(h2:B→B')(h:wantK w A B):wantK w A' B':=by
 unfold wantK at*
 split at h
 ·exact h1 h
 ·exact h2 h
 ·exact h
theorem yd{P:Program}{ops:Array Oper}{K:Fr→Heap→Prop}: ∀(l:List Oper) (a:Fr) (H:Heap),vcO P ops none l K a H→vcOps P ops l K a H
 |[],_,_,h=>h
 |o::rest,a,H,h=>by
  refine⟨h.1,kj (fun h=>?_) (fun h=>yd rest _ _ h) h.2⟩
  unfold stepM at h
  unfold stepK
  split at h
  ·rename_i v e he
   rw[he]
   exact yd rest _ _ h.2
  ·rename_i hn
   rw[hn]
   split at h
   ·rename_i c hc
    simp only[hc]
    split at h
    ·rename_i f args hcal
     simp only[hcal]
     exact CallW.mono h fun v H' h=>yd rest _ _ h
    ·rename_i hcal
     simp only[hcal]
     split at h
     ·rename_i id args hy
      simp only[hy]
      exact YW.mono h fun v H' h=>yd rest _ _ h
     ·exact h.elim
   ·exact h.elim
def rdrs(ops:Array Oper)(prev:List Nat):List Operand:=prev.flatMap fun j=>match ops[j]? with
 |some oj=>if reads oj.op then oj.op.operands.toList else []
 |none=>[]
theorem vcO_open{P:Program}{ops:Array Oper}{K:Fr→Heap→Prop}{s:Bool}{N:Nat}(hst:s=false→ ∀i oi j oj,i<N→j<i→ops[i]?=some oi→ops[j]?=some oj→isSt oi.op=true→reads oj.op=true→waitsT ops ops.size oi j=true):
  ∀(l:List Oper) (k:Nat) (prev:List Nat) (a:Fr) (H:Heap),(∀j,j<l.length→l[j]?=ops[k+j]?)→k+l.length≤N→(∀j∈prev,j<k)→vcO P ops (some (s,rdrs ops prev)) l K a H→vcPreC P ops prev (List.range' k l.length) K a H
 |[],_,_,_,_,_,_,_,h=>h
 |o::rest,k,prev,a,H,hl,hN,hpv,h=>by
  have hN':k+1+rest.length≤N:=by simp at hN;omega
  have hpv': ∀j∈prev++[k],j<k+1:=fun j hj=>by
   rcases List.mem_append.1 hj with h|h
   ·have:=hpv j h;omega
   ·simp at h;omega
  have hk:ops[k]?=some o:=by simpa using (hl 0 (by simp)).symm
  have hr: ∀j,j<rest.length→rest[j]?=ops[k+1+j]?:=fun j hj=>by
   have:=hl (j+1) (by simpa using hj)
   rw[List.getElem?_cons_succ] at this
   rw[this];congr 1;omega
  have hpush:Mo.push (some (s,rdrs ops prev)) o.op=some (s,rdrs ops (prev++[k])):=by
   simp only[Mo.push,Option.map_some,rdrs,List.flatMap_append,List.flatMap_cons,List.flatMap_nil,List.append_nil,hk]
   split<;>simp
  simp only[List.length_cons,List.range'_succ,vcPreC,hk]
  refine⟨h.1,kj (fun h=>?_) (fun h=>vcO_open hst rest (k+1) (prev++[k]) _ _ hr hN' hpv' (by rw[←hpush];exact h)) h.2⟩
  unfold stepM at h
  unfold preK
  split at h
  ·rename_i v e he
   try rw[he]
   refine⟨?_,vcO_open hst rest (k+1) (prev++[k]) _ _ hr hN' hpv' (by rw[←hpush];exact h.2)⟩
   have h1:=h.1
   cases e with
   |none=>trivial
   |put i c=>
    intro j hj oj hoj hrd
    cases s with
    |true=>exact .inr fun x hx=>h1 rfl x (List.mem_flatMap.2 ⟨j,hj,by rw[hoj];simp only[hrd,if_true];exact hx⟩)
    |false=>exact .inl (hst rfl k o j oj (by simp at hN;omega) (hpv j hj) hk hoj (iop_puts he).1 hrd)
   |new c=>exact h1
   |move i c=>
    refine⟨h1.1,fun j hj oj hoj hrd x hx=>h1.2 x ?_⟩
    exact List.mem_flatMap.2 ⟨j,hj,by rw[hoj];simp only[hrd,if_true];exact hx⟩
  ·rename_i hn
   try rw[hn]
   split at h
   ·rename_i c hc
    simp only[hc]
    split at h
    ·rename_i f args hcal
     try simp only[hcal]
     obtain⟨v,hp,h⟩:=h
     exact⟨v,hp,vcO_open hst rest (k+1) (prev++[k]) _ _ hr hN' hpv' (by rw[←hpush];exact h)⟩
    ·split at h
     ·exact h.elim
     ·exact h.elim
   ·exact h.elim
where
 go:Nat→Nat
  |0=>0
  |i+1=>match ops[i]? with
   |none=>i+1
   |some o=>if(List.range i).all fun j=>waitsFor o j then go i else i+1
def condK(v:IV)(A B:Prop):Prop:=
 match v with
 | .bool b=>(b=true→A)∧(b=false→B)
 |_=>False
def drawK(P:Program)(ops:Array Oper)(Q:Exit→Fr→Heap→Prop)(a:Fr)(H:Heap):Prop:=
 ∃s n' pre post,drawOk s n' ops=true∧ops.toList=pre++post∧pre.length=n'∧vcO P ops (some (s,[])) pre (fun a H=>vcO P ops none post (Q .normal) a H) a H
def vc(P:Program):Code→(Exit→Fr→Heap→Prop)→Fr→Heap→Prop
 | .skip,Q,a,H=>Q .normal a H
 | .label _,Q,a,H=>Q .normal a H
 | .seq x y,Q,a,H=>vc P x (thenK (fun a H=>vc P y Q a H) Q) a H
 | .cond c x y,Q,a,H=>condK (a.ev c) (vc P x Q a H) (vc P y Q a H)
 | .block id c,Q,a,H=>vc P c (blockK id Q) a H
 | .scope c,Q,a,H=>vc P c (scopeK Q) a H
 | .loop c,Q,a,H=>W P (.loop c) Q a H
 | .rangeFunc f ps x c,Q,a,H=>W P (.rangeFunc f ps x c) Q a H
 | .exit id,Q,a,H=>Q (.exit id) a H
 | .ret,Q,a,H=>Q .ret a H
 | .goto _,_,_,_=>False
 | .refuse _,_,_,_=>False
 | .region _ ops false,Q,a,H=>vcO P ops none ops.toList (Q .normal) a H
 | .region _ ops true,Q,a,H=>drawK P ops Q a H
theorem thenK_mono{K K':Fr→Heap→Prop}{Q:Exit→Fr→Heap→Prop}(h: ∀a H,K a H→K' a H): ∀e a H,thenK K Q e a H→thenK K' Q e a H:=by
 intro e a H hq
 cases e<;>first|exact h _ _ hq|exact hq
theorem kO{P:Program}(hm:P.follows .mixedOrders=true): ∀(c:Code) (Q:Exit→Fr→Heap→Prop) (a:Fr) (H:Heap),vc P c Q a H→W P c Q a H
 | .skip,_,_,_,h=>W_skip h
 | .label _,_,_,_,h=>W_label h
 | .seq x y,Q,a,H,h=>W_seq ((kO hm x _ a H h).mono (thenK_mono fun a H h=>kO hm y Q a H h))
 | .cond c x y,Q,a,H,h=>by
  simp only[vc] at h
  unfold condK at h
  split at h
  ·rename_i b hb
   exact W_cond hb (fun hb=>kO hm x Q a H (h.1 hb)) (fun hb=>kO hm y Q a H (h.2 hb))
  ·exact h.elim
 | .block id c,Q,a,H,h=>W_block (kO hm c _ a H h)
 | .scope c,Q,a,H,h=>W_scope (kO hm c _ a H h)
 | .loop c,Q,a,H,h=>h
 | .rangeFunc f ps x c,Q,a,H,h=>h
 | .exit id,Q,a,H,h=>W_exit h
 | .ret,Q,a,H,h=>W_ret h
 | .goto _,Q,a,H,h=>h.elim
 | .refuse _,Q,a,H,h=>h.elim
 | .region _ ops false,Q,a,H,h=>W_region (yd _ _ _ h)
 | .region _ ops true,Q,a,H,h=>by
  obtain⟨s,n',pre,post,h1,h2,h3,h4⟩:=h
  subst h3
  have hsz:ops.size=pre.length+post.length:=by rw[←Array.length_toList,h2];simp
  refine W_draw hm h1 (by omega) (kE _ _ _ _ ?_)
  have hd:ops.toList.drop pre.length=post:=by rw[h2];simp
  rw[hd,List.range_eq_range']
  refine vcO_open (s:=s) (N:=pre.length) ?_ pre 0 [] a H (fun j hj=>?_) (by omega) (by simp) ?_
  ·intro hs i oi j oj hi hj hoi hoj hst hrd
   rcases (((dk h1 i oi hoi).2.1 hi).1 j oj hj hoj).2.2 with h|h
   ·exact h
   ·have:=h.1 hs hst;rw[hrd] at this;cases this
  ·rw[Nat.zero_add,←Array.getElem?_toList,h2,List.getElem?_append_left hj]
  ·have hmono: ∀(l:List Oper) (m:Mo) (K K':Fr→Heap→Prop),(∀a H,K a H→K' a H)→ ∀a H,vcO P ops m l K a H→vcO P ops m l K' a H:=by
    intro l
    induction l with
    |nil=>exact fun m K K' hk a H h=>hk a H h
    |cons o rest ih=>
     intro m K K' hk a H h
     refine⟨h.1,kj (fun h=>?_) (fun h=>ih _ K K' hk _ _ h) h.2⟩
     unfold stepM at h ⊢
     split at h
     ·rename_i v e he
      try rw[he]
      exact⟨h.1,ih _ K K' hk _ _ h.2⟩
     ·rename_i hn
      try rw[hn]
      split at h
      ·rename_i c hc
       simp only[hc]
       split at h
       ·rename_i f args hcal
        try simp only[hcal]
        cases m with
        |none=>exact CallW.mono h fun v H' h=>ih _ K K' hk _ _ h
        |some p=>
         obtain⟨v,hp,h⟩:=h
         exact⟨v,hp,ih _ K K' hk _ _ (by first|exact h|(rw[←hc];exact h)|(rw[hc] at h;exact h))⟩
       ·rename_i hcal
        try simp only[hcal]
        split at h
        ·rename_i id args hy
         try simp only[hy]
         cases m with
         |none=>exact YW.mono h fun v H' h=>ih _ K K' hk _ _ h
         |some p=>exact h.elim
        ·exact h.elim
      ·exact h.elim
   exact hmono pre _ _ _ (fun a H h=>yd _ _ _ h) a H h4
theorem condK_congr{v v':IV}{A B:Prop}(h:v=v'){p0:Prop}(hx:(True∧True)=p0):condK v A B=condK v' A B:=by rw[h]
theorem wantK_congr{v v':Option Bool}{A B:Prop}(h:v=v'){p0:Prop}(hx:(True∧True)=p0):wantK v A B=wantK v' A B:=by rw[h]
theorem CallW_congr{P:Program}{f:FuncId}{as as':List IV}{H:Heap}{K:IV→Heap→Prop}(h:as=as'){p0:Prop}(hx:(True∧True)=p0):CallW P f as H K=CallW P f as' H K:=by rw[h]
theorem vc_congr{P:Program}{c:Code}{Q:Exit→Fr→Heap→Prop}{a:Fr}{H:Heap}{p0:Prop}(hx:(True∧True)=p0):vc P c Q a H=vc P c Q a H:=rfl
theorem W_congr{P:Program}{c:Code}{Q:Exit→Fr→Heap→Prop}{a:Fr}{H:Heap}{p0:Prop}(hx:(True∧True)=p0):W P c Q a H=W P c Q a H:=rfl
theorem drawK_congr{P:Program}{ops:Array Oper}{Q:Exit→Fr→Heap→Prop}{a:Fr}{H:Heap}{p0:Prop}(hx:(True∧True)=p0):drawK P ops Q a H=drawK P ops Q a H:=rfl
theorem thenK_congr{K:Fr→Heap→Prop}{Q:Exit→Fr→Heap→Prop}{e:Exit}{a:Fr}{H:Heap}{p0:Prop}(hx:(True∧True)=p0):thenK K Q e a H=thenK K Q e a H:=rfl
theorem blockK_congr{id:Nat}{Q:Exit→Fr→Heap→Prop}{e:Exit}{a:Fr}{H:Heap}{p0:Prop}(hx:(True∧True)=p0):blockK id Q e a H=blockK id Q e a H:=rfl
theorem scopeK_congr{Q:Exit→Fr→Heap→Prop}{e:Exit}{a:Fr}{H:Heap}{p0:Prop}(hx:(True∧True)=p0):scopeK Q e a H=scopeK Q e a H:=rfl
@[simp] theorem wantK_true (A B:Prop):wantK (some true) A B=A:=rfl
@[simp] theorem wantK_false (A B:Prop):wantK (some false) A B=B:=rfl
section eqs
variable {P:Program} {Q:Exit→Fr→Heap→Prop} {a:Fr} {H:Heap}
@[simp] theorem condK_true (A B:Prop):condK (.bool true) A B=A:=by simp[condK]
@[simp] theorem condK_false (A B:Prop):condK (.bool false) A B=B:=by simp[condK]
@[simp] theorem zzL (d:Nat) (v:IV) (t:Nat):(a.put d v).get t=if t=d then v else a.get t:=Eq.trans rfl rfl
@[simp] theorem put_n (d:Nat) (v:IV):(a.put d v).n=a.n:=Eq.trans rfl rfl
@[simp] theorem ev_tmp (t:Nat):a.ev (.tmp t)=a.get t:=Eq.trans rfl rfl
@[simp] theorem ev_func (f:FuncId):a.ev (.func f)= .fn (.func f) [] []:=Eq.trans rfl rfl
@[simp] theorem ev_int (k:IntKind) (n:Int):a.ev (.const (.int k n))= .int k n:=Eq.trans rfl rfl
@[simp] theorem ev_bool (b:Bool):a.ev (.const (.bool b))= .bool b:=Eq.trans rfl rfl
@[simp] theorem ev_string (s:ByteArray):a.ev (.const (.string s))= .str s:=Eq.trans rfl rfl
@[simp] theorem ev_nilp:a.ev (.const (.pointer none))= .nilp:=Eq.trans rfl rfl
@[simp] theorem ev_nils:a.ev (.const (.slice none 0 0))= .nils:=Eq.trans rfl rfl
@[simp] theorem ev_nilf:a.ev (.const .nilFunc)= .nilf:=Eq.trans rfl rfl
@[simp] theorem ev_nili:a.ev (.const .nilIface)= .nili:=Eq.trans rfl rfl
@[simp] theorem put_b (d:Nat) (v:IV):(a.put d v).b=a.b:=Eq.trans rfl rfl
@[simp] theorem fr0_b (n b:Nat) (args:List IV):(fr0 n b args).b=b:=Eq.trans rfl rfl
@[simp] theorem fr0_get (n b:Nat) (args:List IV) (t:Nat):(fr0 n b args).get t=args.getD t .junk:=Eq.trans rfl rfl
@[simp] theorem fr0_n (n b:Nat) (args:List IV):(fr0 n b args).n=n:=Eq.trans rfl rfl
@[simp] theorem heap_new (k:Nat) (b:Blk) (j:Id):(H.new k b).get j=if j=⟨k,H.next k⟩ then some b else H.get j:=Eq.trans rfl rfl
@[simp] theorem zzX (k:Nat) (b:Blk) (j:Nat):(H.new k b).next j=if j=k then H.next k+1 else H.next j:=Eq.trans rfl rfl
@[simp] theorem ke (id:Id) (b:Blk) (j:Id):(H.put id b).get j=if j=id then some b else H.get j:=Eq.trans rfl rfl
@[simp] theorem zzW (id:Id) (b:Blk) (j:Nat):(H.put id b).next j=H.next j:=Eq.trans rfl rfl
@[simp] theorem heap_del (id:Id) (j:Id):(H.del id).get j=if j=id then none else H.get j:=Eq.trans rfl rfl
@[simp] theorem kY (id:Id) (j:Nat):(H.del id).next j=H.next j:=Eq.trans rfl rfl
@[simp] theorem heap_nil (N:Nat→Nat) (j:Id):(Heap.nil N).get j=none:=Eq.trans rfl rfl
@[simp] theorem heap_nil_next (N:Nat→Nat) (j:Nat):(Heap.nil N).next j=N j:=Eq.trans rfl rfl
@[simp] theorem heap_fresh (k:Nat):H.fresh k=⟨k,H.next k⟩:=Eq.trans rfl rfl
@[simp] theorem app_none (k:Nat):Eff.none.app H k=H:=Eq.trans rfl rfl
@[simp] theorem app_put (id:Id) (b:Blk) (k:Nat):(Eff.put id b).app H k=H.put id b:=Eq.trans rfl rfl
@[simp] theorem app_new (b:Blk) (k:Nat):(Eff.new b).app H k=H.new k b:=Eq.trans rfl rfl
@[simp] theorem app_move (id:Id) (b:Blk) (k:Nat):(Eff.move id b).app H k=(H.del id).new k b:=Eq.trans rfl rfl
end eqs
def someK(m:Mo)(a:Fr)(d:Nat)(r:Option (IV×Eff))(H:Heap)(K:IV→Heap→Prop):Prop:=
 match r with
 |some (v,e)=>okM m (some d) a e∧K v (e.app H (a.b+d))
 |none=>False
def valK(r:Option IV)(K:IV→Prop):Prop:=
 match r with
 |some v=>K v
 |none=>False
theorem valK_congr{r r':Option IV}{K:IV→Prop}(h:r=r'){p0:Prop}(hx:(True∧True)=p0):valK r K=valK r' K:=by rw[h]
theorem someK_congr{m m':Mo}{a:Fr}{d:Nat}{r r':Option (IV×Eff)}{H H':Heap}{K:IV→Heap→Prop}(h:r=r')(h2:m=m')(h3:H=H'){p0:Prop}(hx:(True∧True)=p0):someK m a d r H K=someK m' a d r' H' K:=by rw[h,h2,h3]
theorem callM_congr{P:Program}{m m':Mo}{f:FuncId}{as as':List IV}{H:Heap}{K:IV→Heap→Prop}(h:as=as')(h2:m=m'){p0:Prop}(hx:(True∧True)=p0):callM P m f as H K=callM P m' f as' H K:=by rw[h,h2]
theorem vcO_congr{P:Program}{ops:Array Oper}{m m':Mo}{l:List Oper}{K:Fr→Heap→Prop}{a:Fr}{H:Heap}(h:m=m'){p0:Prop}(hx:(True∧True)=p0):vcO P ops m l K a H=vcO P ops m' l K a H:=by rw[h]
@[simp] theorem valK_some (v:IV) (K:IV→Prop):valK (some v) K=K v:=rfl
@[simp] theorem someK_some (m:Mo) (a:Fr) (d:Nat) (v:IV) (e:Eff) (H:Heap) (K:IV→Heap→Prop):someK m a d (some (v,e)) H K=(okM m (some d) a e∧K v (e.app H (a.b+d))):=rfl
@[simp] theorem okM_text (d:Option Tmp) (a:Fr) (e:Eff):okM none d a e=True:=Eq.trans rfl rfl
@[simp] theorem okM_none (p:Bool×List Operand) (d:Option Tmp) (a:Fr):okM (some p) d a .none=True:=Eq.trans rfl rfl
@[simp] theorem okM_put (p:List Operand) (d:Option Tmp) (a:Fr) (i:Id) (b:Blk):okM (some (false,p)) d a (.put i b)=True:=by simp[okM]
@[simp] theorem okM_putS (p:List Operand) (d:Option Tmp) (a:Fr) (i:Id) (b:Blk):okM (some (true,p)) d a (.put i b)= ∀x∈p,ment (a.ev x) i=false:=by simp[okM]
@[simp] theorem okM_new (p:Bool×List Operand) (d:Nat) (a:Fr) (b:Blk):okM (some p) (some d) a (.new b)=True:=by simp[okM]
@[simp] theorem okM_move (s:Bool) (p:List Operand) (d:Nat) (a:Fr) (id:Id) (b:Blk):okM (some (s,p)) (some d) a (.move id b)= ∀x∈p,ment (a.ev x) id=false:=by simp[okM]
theorem stepM_some{P:Program}{m:Mo}{o:Oper}{a:Fr}{H:Heap}{K:IV→Heap→Prop}{d:Nat}(hd:o.dst=some d)(hc: ∀c,o.op= .call c→icallee a c=none∧iyield a c=none):stepM P m o a H K=someK m a d (iop P o a H) H K:=by
 unfold stepM someK
 cases h:iop P o a H with
 |some r=>simp only[hd];rfl
 |none=>
  simp only
  split
  ·rename_i c hc';rw[(hc c hc').1,(hc c hc').2]
  ·rfl
section ops
variable {P:Program} {ops:Array Oper} {rest:List Oper} {K:Fr→Heap→Prop} {a:Fr} {H:Heap} {d:Nat} {ty:TypeId} {pos:String} {after:Array Edge} {m:Mo}
@[simp] theorem push_text (o:Op):Mo.push none o=none:=Eq.trans rfl rfl
@[simp] theorem push_open (s:Bool) (p:List Operand) (o:Op):Mo.push (some (s,p)) o=some (s,if reads o=true then p++o.operands.toList else p):=by
 unfold Mo.push;simp only[Option.map_some];split<;>rfl
@[simp] theorem vcO_take0 (l:List Oper):vcO P ops m (l.take 0) K a H=K a H:=by simp[vcO]
@[simp] theorem vcO_takeN (n:Nat):vcO P ops m (([]:List Oper).take n) K a H=K a H:=by simp[vcO]
@[simp] theorem vcO_take (n:Nat) (o:Oper) (l:List Oper):vcO P ops m ((o::l).take (n+1)) K a H=vcO P ops m (o::l.take n) K a H:=rfl
@[simp] theorem vcO_drop0 (l:List Oper):vcO P ops m (l.drop 0) K a H=vcO P ops m l K a H:=rfl
@[simp] theorem vcO_dropN (n:Nat):vcO P ops m (([]:List Oper).drop n) K a H=K a H:=by simp[vcO]
@[simp] theorem vcO_drop (n:Nat) (o:Oper) (l:List Oper):vcO P ops m ((o::l).drop (n+1)) K a H=vcO P ops m (l.drop n) K a H:=rfl
@[simp] theorem vcOps_nil:vcO P ops m [] K a H=K a H:=rfl
theorem zr{op:Op}{r:Option IV}(h:iop P ⟨some d,op,ty,pos,after,none⟩ a H=r.map fun v=>(v,.none))(hc: ∀c,op= .call c→icallee a c=none∧iyield a c=none):
  vcO P ops m (⟨some d,op,ty,pos,after,none⟩::rest) K a H=(d<a.n∧valK r fun v=>vcO P ops (m.push (op)) rest K (a.put d v) H):=by
 simp only[vcO,Fr.has,iwant,wantK,decide_eq_true_eq,Fr.putO]
 rw[stepM_some rfl (by simpa using hc),h]
 cases r with
 |none=>rfl
 |some v=>cases m<;>simp[someK,valK,okM]
@[simp] theorem vcOps_move (x:Operand):vcO P ops m (⟨some d,.move x,ty,pos,after,none⟩::rest) K a H=(d<a.n∧valK (some (a.ev x)) fun v=>vcO P ops (m.push (.move x)) rest K (a.put d v) H):=zr (r:=some (a.ev x)) rfl (by simp)
@[simp] theorem vcOps_assign (x:Operand):vcO P ops m (⟨some d,.assign x,ty,pos,after,none⟩::rest) K a H=(d<a.n∧valK (some (a.ev x)) fun v=>vcO P ops (m.push (.assign x)) rest K (a.put d v) H):=zr (r:=some (a.ev x)) rfl (by simp)
def ipick(c x y:IV):Option IV:=match c with| .bool b=>some (if b then x else y)|_=>none
@[simp] theorem ipick_bool (b:Bool) (x y:IV):ipick (.bool b) x y=some (if b=true then x else y):=Eq.trans rfl rfl
@[simp] theorem vcOps_pick (c x y:Operand):vcO P ops m (⟨some d,.pick c x y,ty,pos,after,none⟩::rest) K a H=(d<a.n∧valK (ipick (a.ev c) (a.ev x) (a.ev y)) fun v=>vcO P ops (m.push (.pick c x y)) rest K (a.put d v) H):=
 zr (by cases h:a.ev c<;>simp[iop,ipick,h]) (by simp)
@[simp] theorem vcOps_load (t:TypeId) (x:Operand):vcO P ops m (⟨some d,.load t x,ty,pos,after,none⟩::rest) K a H=(d<a.n∧valK (iload P H t (a.ev x)) fun v=>vcO P ops (m.push (.load t x)) rest K (a.put d v) H):=zr rfl (by simp)
@[simp] theorem vcOps_bin (op:BinOp) (t:TypeId) (x y:Operand) (t2:TypeId):vcO P ops m (⟨some d,.binOp op t x y t2,ty,pos,after,none⟩::rest) K a H=(d<a.n∧valK (ibin P op t (a.ev x) (a.ev y) (isConst' y)) fun v=>vcO P ops (m.push (.binOp op t x y t2)) rest K (a.put d v) H):=zr rfl (by simp)
@[simp] theorem vcOps_un (op:UnOp) (t:TypeId) (x:Operand):vcO P ops m (⟨some d,.unOp op t x,ty,pos,after,none⟩::rest) K a H=(d<a.n∧valK (iun op (a.ev x)) fun v=>vcO P ops (m.push (.unOp op t x)) rest K (a.put d v) H):=zr rfl (by simp)
@[simp] theorem vcOps_conv (s t:TypeId) (x:Operand):vcO P ops m (⟨some d,.convert s t x,ty,pos,after,none⟩::rest) K a H=(d<a.n∧valK (iconvH P H s t (a.ev x)) fun v=>vcO P ops (m.push (.convert s t x)) rest K (a.put d v) H):=zr rfl (by simp)
@[simp] theorem vcOps_faddr (t:TypeId) (x:Operand) (f:Nat):vcO P ops m (⟨some d,.fieldAddr t x f,ty,pos,after,none⟩::rest) K a H=(d<a.n∧valK (ifaddr P t (a.ev x) f) fun v=>vcO P ops (m.push (.fieldAddr t x f)) rest K (a.put d v) H):=zr rfl (by simp)
@[simp] theorem vcOps_iaddr (t:TypeId) (x i:Operand):vcO P ops m (⟨some d,.indexAddr t x i,ty,pos,after,none⟩::rest) K a H=(d<a.n∧valK (iiaddr P H t (a.ev x) (a.ev i)) fun v=>vcO P ops (m.push (.indexAddr t x i)) rest K (a.put d v) H):=zr rfl (by simp)
@[simp] theorem vcOps_index (t:TypeId) (x i:Operand):vcO P ops m (⟨some d,.index t x i,ty,pos,after,none⟩::rest) K a H=(d<a.n∧valK (iindex P t (a.ev x) (a.ev i)) fun v=>vcO P ops (m.push (.index t x i)) rest K (a.put d v) H):=zr rfl (by simp)
@[simp] theorem vcOps_ext (x:Operand) (n:Nat):vcO P ops m (⟨some d,.extract x n,ty,pos,after,none⟩::rest) K a H=(d<a.n∧valK (iext (a.ev x) n) fun v=>vcO P ops (m.push (.extract x n)) rest K (a.put d v) H):=zr rfl (by simp)
@[simp] theorem vcOps_slice (t:TypeId) (x:Operand) (lo hi mx:Option Operand):vcO P ops m (⟨some d,.slice t x lo hi mx,ty,pos,after,none⟩::rest) K a H=(d<a.n∧valK (islice P H t (a.ev x) (lo.map a.ev) (hi.map a.ev) (mx.map a.ev)) fun v=>vcO P ops (m.push (.slice t x lo hi mx)) rest K (a.put d v) H):=zr rfl (by simp)
@[simp] theorem vcOps_len (t:TypeId) (x:Operand):vcO P ops m (⟨some d,.call ⟨.builtin .len,#[x],#[t]⟩,ty,pos,after,none⟩::rest) K a H=(d<a.n∧valK (ilen P t (a.ev x)) fun v=>vcO P ops (m.push (.call ⟨.builtin .len,#[x],#[t]⟩)) rest K (a.put d v) H):=zr rfl (by simp[icallee,iyield])
theorem yu{op:Op}{r:Option (IV×Eff)}(h:iop P ⟨some d,op,ty,pos,after,none⟩ a H=r)(hc: ∀c,op= .call c→icallee a c=none∧iyield a c=none):
  vcO P ops m (⟨some d,op,ty,pos,after,none⟩::rest) K a H=(d<a.n∧someK m a d r H fun v H'=>vcO P ops (m.push (op)) rest K (a.put d v) H'):=by
 simp only[vcO,Fr.has,iwant,wantK,decide_eq_true_eq,Fr.putO]
 rw[stepM_some rfl (by simpa using hc),h]
def ialloc(P:Program)(H:Heap)(k:Nat)(t:TypeId):Option (IV×Eff):=
 match tc P t with
 |some C=>match C.zero with
  |some zs=>some (.pb (H.fresh k) 0 0,.new ⟨zs.length,[zs]⟩)
  |none=>none
 |none=>none
def ibox(H:Heap)(k:Nat)(v:IV):Option (IV×Eff):=
 match v.cells with
 |some cs=>some (.pb (H.fresh k) 0 0,.new ⟨cs.length,[cs]⟩)
 |none=>none
def inil(v:IV):Option IV:=
 match v with
 | .pb id i o=>some (.pb id i o)
 | .pim r i o=>some (.pim r i o)
 |_=>none
@[simp] theorem inil_pb (id:Id) (i o:Nat):inil (.pb id i o)=some (.pb id i o):=Eq.trans rfl rfl
@[simp] theorem inil_pim (r:List (List IV)) (i o:Nat):inil (.pim r i o)=some (.pim r i o):=Eq.trans rfl rfl
@[simp] theorem vcOps_alloc (t:TypeId):vcO P ops m (⟨some d,.alloc t,ty,pos,after,none⟩::rest) K a H=(d<a.n∧someK m a d (ialloc P H (a.b+d) t) H fun v H'=>vcO P ops (m.push (.alloc t)) rest K (a.put d v) H'):=yu rfl (by simp)
@[simp] theorem vcOps_box (t:TypeId) (x:Operand):vcO P ops m (⟨some d,.box t x,ty,pos,after,none⟩::rest) K a H=(d<a.n∧someK m a d (ibox H (a.b+d) (a.ev x)) H fun v H'=>vcO P ops (m.push (.box t x)) rest K (a.put d v) H'):=yu rfl (by simp)
@[simp] theorem zzA (x:Operand):vcO P ops m (⟨some d,.nilCheck x,ty,pos,after,none⟩::rest) K a H=(d<a.n∧valK (inil (a.ev x)) fun v=>vcO P ops (m.push (.nilCheck x)) rest K (a.put d v) H):=
 zr (by cases h:a.ev x<;>simp[iop,inil,h]) (by simp)
def ibuildK(P:Program)(t:TypeId)(ps:List (Nat×IV)):Option IV:=if fieldsKnown P t then ibuild P t ps else none
@[simp] theorem vcOps_build (t:TypeId) (l:List (Nat×Operand)):vcO P ops m (⟨some d,.build t l.toArray,ty,pos,after,none⟩::rest) K a H=(d<a.n∧valK (ibuildK P t (l.map fun p=>(p.1,a.ev p.2))) fun v=>vcO P ops (m.push (.build t l.toArray)) rest K (a.put d v) H):=
 zr (by simp only[iop,ibuildK];split<;>rfl) (by simp)
def ibsl(P:Program)(H:Heap)(k:Nat)(t:TypeId)(n:Nat)(ps:List (Nat×IV)):Option (IV×Eff):=(ibslice P t n ps).map fun b=>(.sb (H.fresh k) 0 n true,.new b)
@[simp] theorem vcOps_bslice (t:TypeId) (n:Nat) (l:List (Nat×Operand)):vcO P ops m (⟨some d,.buildSlice t n l.toArray,ty,pos,after,none⟩::rest) K a H=(d<a.n∧someK m a d (ibsl P H (a.b+d) t n (l.map fun p=>(p.1,a.ev p.2))) H fun v H'=>vcO P ops (m.push (.buildSlice t n l.toArray)) rest K (a.put d v) H'):=yu rfl (by simp)
def imk(P:Program)(H:Heap)(k:Nat)(t:TypeId)(l c:IV):Option (IV×Eff):=(imake P t l c).map fun r=>(.sb (H.fresh k) 0 r.2.1 r.2.2,.new r.1)
@[simp] theorem vcOps_make (t:TypeId) (l c:Operand):vcO P ops m (⟨some d,.makeSlice t l c,ty,pos,after,none⟩::rest) K a H=(d<a.n∧someK m a d (imk P H (a.b+d) t (a.ev l) (a.ev c)) H fun v H'=>vcO P ops (m.push (.makeSlice t l c)) rest K (a.put d v) H'):=yu rfl (by simp)
@[simp] theorem vcOps_func (fn:Fn) (f c:List Operand):vcO P ops m (⟨some d,.makeFunc fn f.toArray c.toArray,ty,pos,after,none⟩::rest) K a H=(d<a.n∧valK (some (.fn fn (f.map a.ev) (c.map a.ev))) fun v=>vcO P ops (m.push (.makeFunc fn f.toArray c.toArray)) rest K (a.put d v) H):=zr (r:=some (.fn fn (f.map a.ev) (c.map a.ev))) rfl (by simp)
@[simp] theorem vcOps_append (t tx:TypeId) (s x:Operand):vcO P ops m (⟨some d,.call ⟨.builtin .append,#[s,x],#[t,tx]⟩,ty,pos,after,none⟩::rest) K a H=(d<a.n∧someK m a d (iapp P H (a.b+d) t tx (a.ev s) (a.ev x)) H fun v H'=>vcO P ops (m.push (.call ⟨.builtin .append,#[s,x],#[t,tx]⟩)) rest K (a.put d v) H'):=yu rfl (by simp[icallee,iyield])
@[simp] theorem vcOps_copy (t tx:TypeId) (s x:Operand):vcO P ops m (⟨some d,.call ⟨.builtin .copy,#[s,x],#[t,tx]⟩,ty,pos,after,none⟩::rest) K a H=(d<a.n∧someK m a d (icopy P H t tx (a.ev s) (a.ev x)) H fun v H'=>vcO P ops (m.push (.call ⟨.builtin .copy,#[s,x],#[t,tx]⟩)) rest K (a.put d v) H'):=yu rfl (by simp[icallee,iyield])
@[simp] theorem vcOps_max (ts:Array TypeId) (l:List Operand):vcO P ops m (⟨some d,.call ⟨.builtin .max,l.toArray,ts⟩,ty,pos,after,none⟩::rest) K a H=(d<a.n∧valK (imax true (l.map a.ev)) fun v=>vcO P ops (m.push (.call ⟨.builtin .max,l.toArray,ts⟩)) rest K (a.put d v) H):=zr (by simp[iop,ibuiltin]) (by simp[icallee,iyield])
@[simp] theorem vcOps_min (ts:Array TypeId) (l:List Operand):vcO P ops m (⟨some d,.call ⟨.builtin .min,l.toArray,ts⟩,ty,pos,after,none⟩::rest) K a H=(d<a.n∧valK (imax false (l.map a.ev)) fun v=>vcO P ops (m.push (.call ⟨.builtin .min,l.toArray,ts⟩)) rest K (a.put d v) H):=zr (by simp[iop,ibuiltin]) (by simp[icallee,iyield])
def putK(r:Option Eff)(H:Heap)(K:Heap→Prop):Prop:=
 match r with
 |some e=>K (e.app H 0)
 |none=>False
theorem putK_congr{r r':Option Eff}{H:Heap}{K:Heap→Prop}(h:r=r'){p0:Prop}(hx:(True∧True)=p0):putK r H K=putK r' H K:=by rw[h]
@[simp] theorem putK_some (e:Eff) (H:Heap) (K:Heap→Prop):putK (some e) H K=K (e.app H 0):=rfl
theorem istore_put{t:TypeId}{p v:IV}{e:Eff}(h:istore P H t p v=some e): ∃id b,e= .put id b:=by
 unfold istore at h
 split at h
 ·split at h
  ·cases h
  ·split at h
   ·cases h
   ·split at h
    ·cases h;exact⟨_,_,rfl⟩
    ·cases h
 ·cases h
def putM(m:Mo)(a:Fr)(r:Option Eff)(H:Heap)(K:Heap→Prop):Prop:=
 match m with
 |some (true,p)=>match r with
  |some (.put i b)=>(∀x∈p,ment (a.ev x) i=false)∧K (H.put i b)
  |_=>False
 |_=>putK r H K
theorem putM_congr{m m':Mo}{a:Fr}{r r':Option Eff}{H:Heap}{K:Heap→Prop}(h:r=r')(h2:m=m'){p0:Prop}(hx:(True∧True)=p0):putM m a r H K=putM m' a r' H K:=by rw[h,h2]
@[simp] theorem putM_text (a:Fr) (r:Option Eff) (H:Heap) (K:Heap→Prop):putM none a r H K=putK r H K:=Eq.trans rfl rfl
@[simp] theorem putM_open (p:List Operand) (a:Fr) (r:Option Eff) (H:Heap) (K:Heap→Prop):putM (some (false,p)) a r H K=putK r H K:=Eq.trans rfl rfl
@[simp] theorem putM_strict (p:List Operand) (a:Fr) (i:Id) (b:Blk) (H:Heap) (K:Heap→Prop):putM (some (true,p)) a (some (.put i b)) H K=((∀x∈p,ment (a.ev x) i=false)∧K (H.put i b)):=Eq.trans rfl rfl
@[simp] theorem vcOps_store (t:TypeId) (x y:Operand):vcO P ops m (⟨none,.store t x y,ty,pos,after,none⟩::rest) K a H=putM m a (istore P H t (a.ev x) (a.ev y)) H fun H'=>vcO P ops (m.push (.store t x y)) rest K a H':=by
 simp only[vcO,Fr.has,iwant,wantK,Fr.putO,true_and,stepM,iop,putK,putM]
 cases hs:istore P H t (a.ev x) (a.ev y) with
 |none=>rcases m with _|⟨_|_,p⟩<;>rfl
 |some e=>
  obtain⟨id,b,rfl⟩:=istore_put hs
  cases m with
  |none=>simp[okM]
  |some p=>obtain⟨s,p⟩:=p;cases s<;>simp[okM,Eff.app]
@[simp] theorem vcOps_mnew (t:TypeId):vcO P ops m (⟨some d,.makeMap t none,ty,pos,after,none⟩::rest) K a H=(d<a.n∧someK m a d (some (.mp (H.fresh (a.b+d)),.new ⟨2,[]⟩)) H fun v H'=>vcO P ops (m.push (.makeMap t none)) rest K (a.put d v) H'):=yu rfl (by simp)
@[simp] theorem vcOps_look (t:TypeId) (x i:Operand) (ok:Bool):vcO P ops m (⟨some d,.lookup t x i ok,ty,pos,after,none⟩::rest) K a H=(d<a.n∧valK (ilook P H t (a.ev x) (a.ev i) ok) fun v=>vcO P ops (m.push (.lookup t x i ok)) rest K (a.put d v) H):=zr rfl (by simp)
@[simp] theorem vcOps_mput (t:TypeId) (x k y:Operand):vcO P ops m (⟨none,.mapUpdate t x k y,ty,pos,after,none⟩::rest) K a H=putM m a (imput P H t (a.ev x) (a.ev k) (a.ev y)) H fun H'=>vcO P ops (m.push (.mapUpdate t x k y)) rest K a H':=by
 simp only[vcO,Fr.has,iwant,wantK,Fr.putO,true_and,stepM,iop,putK,putM]
 cases hs:imput P H t (a.ev x) (a.ev k) (a.ev y) with
 |none=>rcases m with _|⟨_|_,p⟩<;>rfl
 |some e=>
  obtain⟨id,b,_,rfl,_⟩:=zzN hs
  cases m with
  |none=>simp[okM]
  |some p=>obtain⟨s,p⟩:=p;cases s<;>simp[okM,Eff.app]
def callV(a:Fr)(f:IV)(args:List IV)(K:FuncId→List IV→Prop)(Y:Id→List IV→Prop):Prop:=
 match f with
 | .fn (.func f) first captured=>K f (first++args++captured)
 | .yld id=>Y id args
 |_=>False
theorem callV_congr{a:Fr}{f f':IV}{as as':List IV}{K:FuncId→List IV→Prop}{Y:Id→List IV→Prop}(h:f=f')(h2:as=as'){p0:Prop}(hx:(True∧True)=p0):callV a f as K Y=callV a f' as' K Y:=by rw[h,h2]
@[simp] theorem callV_fn (a:Fr) (f:FuncId) (first captured args:List IV) (K:FuncId→List IV→Prop) (Y:Id→List IV→Prop):callV a (.fn (.func f) first captured) args K Y=K f (first++args++captured):=rfl
@[simp] theorem callV_yld (a:Fr) (id:Id) (args:List IV) (K:FuncId→List IV→Prop) (Y:Id→List IV→Prop):callV a (.yld id) args K Y=Y id args:=rfl
@[simp] theorem callY_text (P:Program) (id:Id) (as:List IV) (H:Heap) (K:IV→Heap→Prop):callY P none id as H K=YW P id as H K:=rfl
theorem vcOps_callV{dst:Option Tmp}(x:Operand)(l:List Operand)(ts:Array TypeId):vcO P ops m (⟨dst,.call ⟨.value x,l.toArray,ts⟩,ty,pos,after,none⟩::rest) K a H=
  (a.has dst=true∧callV a (a.ev x) (l.map a.ev) (fun f as=>callM P m f as H fun v H'=>vcO P ops (m.push (.call ⟨.value x,l.toArray,ts⟩)) rest K (a.putO dst v) H')
   fun id as=>callY P m id as H fun v H'=>vcO P ops (m.push (.call ⟨.value x,l.toArray,ts⟩)) rest K (a.putO dst v) H'):=by
 simp only[vcO,iwant,wantK,stepM,iop,icallee,iyield,callV]
 cases a.ev x with
 |fn f first captured=>cases f<;>rfl
 |_=>rfl
@[simp] theorem vcOps_call (x:Operand) (l:List Operand) (ts:Array TypeId):vcO P ops m (⟨some d,.call ⟨.value x,l.toArray,ts⟩,ty,pos,after,none⟩::rest) K a H=
  (d<a.n∧callV a (a.ev x) (l.map a.ev) (fun f as=>callM P m f as H fun v H'=>vcO P ops (m.push (.call ⟨.value x,l.toArray,ts⟩)) rest K (a.put d v) H')
   fun id as=>callY P m id as H fun v H'=>vcO P ops (m.push (.call ⟨.value x,l.toArray,ts⟩)) rest K (a.put d v) H'):=by
 rw[vcOps_callV];simp[Fr.has,Fr.putO]
@[simp] theorem vcOps_call0 (x:Operand) (l:List Operand) (ts:Array TypeId):vcO P ops m (⟨none,.call ⟨.value x,l.toArray,ts⟩,ty,pos,after,none⟩::rest) K a H=
  callV a (a.ev x) (l.map a.ev) (fun f as=>callM P m f as H fun v H'=>vcO P ops (m.push (.call ⟨.value x,l.toArray,ts⟩)) rest K a H')
   fun id as=>callY P m id as H fun v H'=>vcO P ops (m.push (.call ⟨.value x,l.toArray,ts⟩)) rest K a H':=by
 rw[vcOps_callV];simp[Fr.has,Fr.putO]
def gd(ops:Array Oper)(g:Nat×Bool)(a:Fr):Option Bool:=
 match (ops[g.1]?).bind (·.dst) with
 |none=>some false
 |some d=>if d<a.n then match a.get d with
  | .bool b=>some (b==g.2)
  | .tup []=>some false
  |_=>none else none
@[simp] theorem vcOps_guard (dst:Option Tmp) (op:Op) (g:Nat×Bool):vcO P ops m (⟨dst,op,ty,pos,after,some g⟩::rest) K a H=
  wantK (gd ops g a) (vcO P ops m (⟨dst,op,ty,pos,after,none⟩::rest) K a H) (a.has dst=true∧vcO P ops (m.push (op)) rest K (a.putO dst (.tup [])) H):=by
 have e:iwant ops ⟨dst,op,ty,pos,after,some g⟩ a=gd ops g a:=rfl
 have s: ∀K,stepM P m ⟨dst,op,ty,pos,after,some g⟩ a H K=stepM P m ⟨dst,op,ty,pos,after,none⟩ a H K:=fun K=>rfl
 simp only[vcO,e,s]
 cases h:gd ops g a with
 |none=>simp[wantK]
 |some b=>cases b<;>simp[wantK,iwant]
end ops
attribute [congr] condK_congr wantK_congr CallW_congr vc_congr W_congr drawK_congr thenK_congr blockK_congr scopeK_congr valK_congr someK_congr callM_congr vcO_congr putK_congr putM_congr callV_congr
end Go.Proofs.Ytoojnagdenoknaa.IL
