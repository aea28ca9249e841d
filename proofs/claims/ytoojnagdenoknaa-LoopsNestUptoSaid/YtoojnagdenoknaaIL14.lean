/- The ideal logic, part 14: regions that draw their order, the rule. Nothing here speaks of a given program. -/
import Derived.Test.YtoojnagdenoknaaIL13
set_option linter.unusedSectionVars false
set_option linter.unnecessarySimpa false
set_option linter.unusedVariables false
set_option linter.unusedSimpArgs false
namespace Go.Proofs.Ytoojnagdenoknaa.IL
open Go Go.RowKit
def waitsFor(o:Oper)(j:Nat):Bool:=o.after.any fun e=>Region.binds .any e&&e.on==j
def waitsT(ops:Array Oper):Nat→Oper→Nat→Bool
 |0,_,_=>false
 |n+1,o,j=>waitsFor o j||o.after.any fun e=>Region.binds .any e&&match ops[e.on]? with|some oe=>waitsT ops n oe j|none=>false
def okEff(ops:Array Oper)(prev:List Nat)(o:Oper)(a:Fr):Eff→Prop
 | .none=>True
 | .new _=>o.dst.isSome=true
 | .move id _=>o.dst.isSome=true∧ ∀j∈prev,∀oj,ops[j]?=some oj→reads oj.op=true→ ∀x∈oj.op.operands.toList,ment (a.ev x) id=false
 | .put id _=> ∀j∈prev,∀oj,ops[j]?=some oj→reads oj.op=true→waitsT ops ops.size o j=true∨ ∀x∈oj.op.operands.toList,ment (a.ev x) id=false
def isSt:Op→Bool
 | .store ..| .mapUpdate ..=>true
 | .call {callee:= .builtin .copy,..}=>true
 |_=>false
theorem isSt_reads{o:Op}(h:isSt o=true):reads o=true:=by
 unfold isSt at h
 split at h<;>first|rfl|cases h
def Stp(P:Program)(ops:Array Oper)(prev:List Nat)(o:Oper)(a:Fr)(H:Heap)(v:IV)(H':Heap):Prop:=
 a.has o.dst=true∧((iwant ops o a=some false∧v= .tup []∧H'=H)∨
  (iwant ops o a=some true∧((∃e,iop P o a H=some (v,e)∧okEff ops prev o a e∧H'=e.app H (a.b+o.dst.getD 0))∨
   (iop P o a H=none∧H'=H∧ ∃c f args,o.op= .call c∧icallee a c=some (f,args)∧Pure1 P f args v))))
def vcPre(P:Program)(ops:Array Oper):List Nat→List Nat→(Fr→Heap→Prop)→Fr→Heap→Prop
 |_,[],K,a,H=>K a H
 |prev,i::rest,K,a,H=> ∃o v H',ops[i]?=some o∧Stp P ops prev o a H v H'∧vcPre P ops (prev++[i]) rest K (a.putO o.dst v) H'
def RelEx(a:Fr)(H:Heap):Prop:= ∃J S ra w,RelF J S a ra∧RelH J S H w
theorem Stp.sound{P:Program}{ops:Array Oper}{prev:List Nat}{i:Nat}{o:Oper}{a:Fr}{H H':Heap}{v:IV}(h:Stp P ops prev o a H v H')(ho:ops[i]?=some o){J:Inj}{S:Sure}{ra:Act}{w:World}(hF:RelF J S a ra)(hH:RelH J S H w)
  {N:Act→World→Prop} {Q:Exit→Act→World→Prop} (hN: ∀J' S' ra' w',RelF J' S' (a.putO o.dst v) ra'→RelH J' S' H' w'→Ext J S H w J' S' H' w'→ra'.defers=ra.defers→N ra' w') (ro:Option Nat):wpOpIn (FX ro) 0 P ops Q i N ra w:=by
 obtain⟨hd,h⟩:=h
 unfold wpOpIn
 simp only[ho]
 rcases h with ⟨hw,rfl,rfl⟩|⟨hw,h⟩
 ·rw[yB hw hF,if_neg (by simp)]
  exact⟨fun _ _=>trivial,hN J S _ w (hF.put hd (.undef _ _)) hH .refl (yC _ _ _)⟩
 ·rw[yB hw hF,if_pos rfl]
  have hk:stepK P o a H (fun v' H2=>v'=v∧H2=H'):=by
   unfold stepK
   rcases h with ⟨e,he,_,rfl⟩|⟨hn,rfl,c,f,args,hc,hcal,hp⟩
   ·rw[he];exact⟨rfl,rfl⟩
   ·rw[hn,hc]
    simp only[hcal]
    exact(hp.at H').mono fun v' H2 h=>h
  refine yi hk hF hH ?_ ro
  rintro v' H2 J' S' u w' ⟨rfl,rfl⟩ hvr hH' hE
  exact hN J' S' _ w' ((hF.mono hE.hJ hE.hS).put hd hvr) hH' hE (yC _ _ _)
theorem RelEx.step{P:Program}{ops:Array Oper}{prev:List Nat}{i:Nat}{o:Oper}{a:Fr}{H H':Heap}{v:IV}(h:Stp P ops prev o a H v H')(ho:ops[i]?=some o)(hx:RelEx a H):RelEx (a.putO o.dst v) H':=by
 obtain⟨J,S,ra,w,hF,hH⟩:=hx
 obtain⟨hd,h⟩:=h
 rcases h with ⟨hw,rfl,rfl⟩|⟨hw,h⟩
 ·exact⟨J,S,_,w,hF.put (u:=undef) hd (.undef _ _),hH⟩
 ·rcases h with ⟨e,he,_,rfl⟩|⟨hn,rfl,c,f,args,hc,hcal,hp⟩
  ·obtain⟨u,w',J',_,hv,hH',hE⟩:=iop_sound he hF hH
   exact⟨J',S,_,w',(hF.mono hE.hJ hE.hS).put hd hv,hH'⟩
  ·have hcw:=hp.at H'
   obtain⟨us,_,hus⟩:=icallee_run hcal hF hcw.1 hc w
   obtain⟨e,w',fr,⟨J',S',u,v',H2,he,⟨rfl,rfl⟩,hv,hH',hE⟩,_⟩:=hcw.2 J S w us hF.glob hH hus []
   exact⟨J',S',_,w',(hF.mono hE.hJ hE.hS).put hd hv,hH'⟩
theorem RelEx.old{a:Fr}{H:Heap}(hx:RelEx a H){x:Operand}{id:Id}(hm:ment (a.ev x) id=true):id.g<H.next id.k:=by
 obtain⟨J,S,ra,w,hF,hH⟩:=hx
 have hv:=hF.ev x
 generalize ra.eval x=u at hv
 cases h:a.ev x with
 |pb i r o=>
  rw[h] at hv hm
  simp only[ment,decide_eq_true_eq] at hm
  subst hm
  cases hv with
  |pb hL hm=>exact hH.next _ _ hL
 |sb i r n f=>
  rw[h] at hv hm
  simp only[ment,decide_eq_true_eq] at hm
  subst hm
  cases hv with
  |sb hL=>exact hH.next _ _ hL
 |mp i=>
  rw[h] at hv hm
  simp only[ment,decide_eq_true_eq] at hm
  subst hm
  cases hv with
  |mp hL=>exact hH.next _ _ hL
 |_=>rw[h] at hm;simp[ment] at hm
theorem RelEx.live{a:Fr}{H:Heap}(hx:RelEx a H){id:Id}{b:Blk}(hb:H.get id=some b):id.g<H.next id.k:=by
 obtain⟨J,S,ra,w,hF,hH⟩:=hx
 obtain⟨L,hL,_⟩:=hH.blk id b hb
 exact hH.next _ _ hL
structure Apart (ops:Array Oper) (jx:Nat) (oj oi:Oper):Prop where
 d: ∀d,oj.dst=some d→oi.dst≠some d
 ji: ∀d,oj.dst=some d→d∉oi.looksAt ops
 ij: ∀d,oi.dst=some d→d∉oj.looksAt ops
 jj: ∀d,oj.dst=some d→d∉oj.looksAt ops
 sj:isSt oj.op=true→reads oi.op=false
 nw:waitsT ops ops.size oi jx=false
theorem kH{ops:Array Oper}{o:Oper}{a:Fr}{d:Option Tmp}{v:IV}(h: ∀t,d=some t→t∉o.looksAt ops){x:Operand}(hx:x∈o.op.operands.toList):(a.putO d v).ev x=a.ev x:=by
 cases d with
 |none=>rfl
 |some t=>
  cases x with
  |tmp s=>
   have hne:s≠t:=by
    rintro rfl
    exact h s rfl (List.mem_append_left _ (List.mem_filterMap.2 ⟨.tmp s,hx,rfl⟩))
   simp[Fr.putO,Fr.put,Fr.ev,hne]
  |_=>rfl
theorem yy{ops:Array Oper}{o:Oper}{a:Fr}{d:Option Tmp}{v:IV}(h: ∀t,d=some t→t∉o.looksAt ops):iwant ops o (a.putO d v)=iwant ops o a:=by
 cases d with
 |none=>rfl
 |some t=>
  unfold iwant
  split
  ·rfl
  ·rename_i j want hg
   split
   ·rfl
   ·rename_i s hs
    have hne:s≠t:=by
     rintro rfl
     exact h s rfl (by simp[Oper.looksAt,hg,hs])
    simp only[Fr.putO,Fr.put,hne,if_false]
theorem kg(a:Fr)(d e:Option Tmp)(v:IV):(a.putO d v).has e=a.has e:=by
 cases d<;>cases e<;>rfl
theorem putO_b(a:Fr)(d:Option Tmp)(v:IV):(a.putO d v).b=a.b:=by cases d<;>rfl
theorem putO_comm(a:Fr){d e:Option Tmp}(v u:IV)(h: ∀t,d=some t→e≠some t):(a.putO d v).putO e u=(a.putO e u).putO d v:=by
 cases d with
 |none=>rfl
 |some t=>
  cases e with
  |none=>rfl
  |some s=>
   have hne:t≠s:=fun x=>h t rfl (by rw[x])
   simp only[Fr.putO,Fr.put,Fr.mk.injEq,true_and]
   funext q
   by_cases h1:q=s<;>by_cases h2:q=t<;>simp[h1,h2]
   ·exact absurd (h2.symm.trans h1) hne
   ·intro h;exact absurd h.symm hne
   ·intro h;exact absurd h hne
theorem app_get{e:Eff}{H:Heap}{k:Nat}{id:Id}{b:Blk}(h:(e.app H k).get id=some b)(hp: ∀i c,e≠ .put i c):id=H.fresh k∨H.get id=some b:=by
 cases e with
 |none=>exact .inr h
 |put i c=>exact absurd rfl (hp i c)
 |new c=>
  simp only[Eff.app,Heap.new] at h
  split at h
  ·rename_i hi;exact .inl hi
  ·exact .inr h
 |move i c=>
  simp only[Eff.app,Heap.new] at h
  split at h
  ·rename_i hi;exact .inl hi
  ·simp only[Heap.del] at h
   split at h
   ·cases h
   ·exact .inr h
theorem app_keeps{e:Eff}{H:Heap}{k:Nat}{id:Id}{b:Blk}(h:H.get id=some b)(hp: ∀i c,e≠ .put i c)(hf:id≠H.fresh k)(hm: ∀i c,e= .move i c→id≠i):(e.app H k).get id=some b:=by
 cases e with
 |none=>exact h
 |put i c=>exact absurd rfl (hp i c)
 |new c=>simp only[Eff.app,Heap.new,if_neg hf];exact h
 |move i c=>
  simp only[Eff.app,Heap.new]
  rw[if_neg (show id≠(H.del i).fresh k from hf)]
  simp only[Heap.del,if_neg (hm i c rfl)]
  exact h
theorem app_next{e:Eff}{H:Heap}{k j:Nat}(hp: ∀i c,e≠ .put i c)(hj:j≠k):(e.app H k).next j=H.next j:=by
 cases e with
 |none=>rfl
 |put i c=>exact absurd rfl (hp i c)
 |new c=>simp[Eff.app,Heap.new,hj]
 |move i c=>simp[Eff.app,Heap.new,Heap.del,hj]
theorem yX{e:Eff}{H:Heap}{k:Nat}(h:e.makes=false)(hp: ∀i c,e≠ .put i c):e.app H k=H:=by
 cases e with
 |none=>rfl
 |put i c=>exact absurd rfl (hp i c)
 |_=>simp[Eff.makes] at h
theorem app_comm{e f:Eff}{H:Heap}{j k:Nat}(he: ∀i c,e≠ .put i c)(hf: ∀i c,f≠ .put i c)(hjk:e.makes=true→f.makes=true→j≠k)
  (h1: ∀i c,e= .move i c→i≠H.fresh k) (h2: ∀i c,f= .move i c→i≠H.fresh j):f.app (e.app H j) k=e.app (f.app H k) j:=by
 by_cases he0:e.makes=false
 ·rw[yX he0 he,yX he0 he]
 ·by_cases hf0:f.makes=false
  ·rw[yX hf0 hf,yX hf0 hf]
  ·have hne:j≠k:=hjk (by simpa using he0) (by simpa using hf0)
   have hfr:H.fresh j≠H.fresh k:=by simp[Heap.fresh,hne]
   cases e with
   |none=>simp[Eff.makes] at he0
   |put i c=>exact absurd rfl (he i c)
   |new c=>
    cases f with
    |none=>simp[Eff.makes] at hf0
    |put i c=>exact absurd rfl (hf i c)
    |new d=>
     simp only[Eff.app,Heap.new,Heap.fresh,Heap.mk.injEq]
     constructor
     ·funext x
      simp only[if_neg hne,if_neg (Ne.symm hne)]
      by_cases a1:x=⟨k,H.next k⟩<;>by_cases a2:x=⟨j,H.next j⟩<;>simp[a1,a2]
      ·exact absurd (a2.symm.trans a1) hfr
      ·intro h;exact absurd h.symm hne
      ·intro h;exact absurd h hne
     ·refine⟨?_,trivial⟩
      funext x
      by_cases a1:x=k<;>by_cases a2:x=j<;>simp[a1,a2,hne,Ne.symm hne]
    |move i d=>
     have hi:=h2 i d rfl
     simp only[Eff.app,Heap.new,Heap.fresh,Heap.del,Heap.mk.injEq]
     constructor
     ·funext x
      simp only[if_neg hne,if_neg (Ne.symm hne)]
      by_cases a1:x=⟨k,H.next k⟩<;>by_cases a2:x=⟨j,H.next j⟩<;>by_cases a3:x=i<;>simp[a1,a2,a3]
      all_goals first
       |(exact absurd (a2.symm.trans a1) hfr)
       |(exact absurd (a3.symm.trans a2) hi)
       |skip
      all_goals simp_all [Heap.fresh]
     ·refine⟨?_,trivial⟩
      funext x
      by_cases a1:x=k<;>by_cases a2:x=j<;>simp[a1,a2,hne,Ne.symm hne]
   |move i' c=>
    have hi':=h1 i' c rfl
    cases f with
    |none=>simp[Eff.makes] at hf0
    |put i c=>exact absurd rfl (hf i c)
    |new d=>
     simp only[Eff.app,Heap.new,Heap.fresh,Heap.del,Heap.mk.injEq]
     constructor
     ·funext x
      simp only[if_neg hne,if_neg (Ne.symm hne)]
      by_cases a1:x=⟨k,H.next k⟩<;>by_cases a2:x=⟨j,H.next j⟩<;>by_cases a3:x=i'<;>simp[a1,a2,a3]
      all_goals first
       |(exact absurd (a2.symm.trans a1) hfr)
       |(exact absurd (a3.symm.trans a1) hi')
       |skip
      all_goals simp_all [Heap.fresh]
     ·refine⟨?_,trivial⟩
      funext x
      by_cases a1:x=k<;>by_cases a2:x=j<;>simp[a1,a2,hne,Ne.symm hne]
    |move i d=>
     have hi:=h2 i d rfl
     simp only[Eff.app,Heap.new,Heap.fresh,Heap.del,Heap.mk.injEq]
     constructor
     ·funext x
      simp only[if_neg hne,if_neg (Ne.symm hne)]
      by_cases a1:x=⟨k,H.next k⟩<;>by_cases a2:x=⟨j,H.next j⟩<;>by_cases a3:x=i'<;>by_cases a4:x=i<;>simp[a1,a2,a3,a4]
      all_goals first
       |(exact absurd (a2.symm.trans a1) hfr)
       |(exact absurd (a3.symm.trans a1) hi')
       |(exact absurd (a4.symm.trans a2) hi)
       |skip
      all_goals simp_all [Heap.fresh]
     ·refine⟨?_,trivial⟩
      funext x
      by_cases a1:x=k<;>by_cases a2:x=j<;>simp[a1,a2,hne,Ne.symm hne]
theorem okEff_prev{ops:Array Oper}{prev prev':List Nat}{o:Oper}{a:Fr}{e:Eff}(h:okEff ops prev o a e)(hs: ∀j∈prev',j∈prev):okEff ops prev' o a e:=by
 cases e with
 |none=>trivial
 |put i c=>exact fun j hj=>h j (hs j hj)
 |new c=>exact h
 |move i c=>exact⟨h.1,fun j hj=>h.2 j (hs j hj)⟩
theorem Stp.prev{P:Program}{ops:Array Oper}{prev prev':List Nat}{o:Oper}{a:Fr}{H H':Heap}{v:IV}(h:Stp P ops prev o a H v H')(hs: ∀j∈prev',j∈prev):Stp P ops prev' o a H v H':=by
 obtain⟨hd,h⟩:=h
 refine⟨hd,h.imp id fun⟨hw,h⟩=>⟨hw,h.imp (fun⟨e,he,hk,hh⟩=>⟨e,he,okEff_prev hk hs,hh⟩) id⟩⟩
theorem vcPre_prev{P:Program}{ops:Array Oper}{K:Fr→Heap→Prop}: ∀(rest prev prev':List Nat) (a:Fr) (H:Heap),vcPre P ops prev rest K a H→(∀j∈prev',j∈prev)→vcPre P ops prev' rest K a H
 |[],_,_,_,_,h,_=>h
 |i::rest,prev,prev',a,H,h,hs=>by
  obtain⟨o,v,H',ho,hst,h⟩:=h
  refine⟨o,v,H',ho,hst.prev hs,vcPre_prev rest _ _ _ _ h fun j hj=>?_⟩
  rcases List.mem_append.1 hj with hj|hj
  ·exact List.mem_append_left _ (hs j hj)
  ·exact List.mem_append_right _ hj
theorem zzN{P:Program}{H:Heap}{t:TypeId}{x k v:IV}{e:Eff}(h:imput P H t x k v=some e): ∃id c b,e= .put id c∧H.get id=some b∧ment x id=true:=by
 unfold imput at h
 split at h
 ·rename_i p id hm
  split at h
  ·rename_i b hb
   split at h
   ·cases h;exact⟨id,_,b,rfl,hb,by simp[ment]⟩
   ·cases h;exact⟨id,_,b,rfl,hb,by simp[ment]⟩
   ·cases h
  ·cases h
 ·cases h
theorem iop_moves{P:Program}{o:Oper}{a:Fr}{H:Heap}{v:IV}{i:Id}{c:Blk}(h:iop P o a H=some (v,.move i c)): ∃x b,H.get i=some b∧x∈o.op.operands.toList∧ment (a.ev x) i=true:=by
 obtain⟨dst,op,type,pos,after,guard⟩:=o
 cases op<;>simp only[iop] at h<;>try (cases h;done)
 all_goals first
  |(simp only[Option.map_eq_some_iff] at h;obtain⟨_,_,he⟩:=h;cases he;done)
  |(split at h<;>(first|(cases h;done)|(split at h<;>cases h));done)
  |skip
 case build t ps=>
  split at h
  ·simp only[Option.map_eq_some_iff] at h;obtain⟨_,_,he⟩:=h;cases he
  ·cases h
 case makeMap t r=>cases r<;>cases h
 case mapUpdate t m x y=>
  simp only[Option.map_eq_some_iff] at h
  obtain⟨e,he,hh⟩:=h
  obtain⟨id,c',b,he',_⟩:=zzN he
  rw[he'] at hh
  cases hh
 case store t x y=>
  simp only[Option.map_eq_some_iff] at h
  obtain⟨e,he,hh⟩:=h
  cases hh
  unfold istore at he
  split at he
  ·split at he
   ·cases he
   ·split at he
    ·cases he
    ·split at he<;>cases he
  ·cases he
 case call c'=>
  obtain⟨callee,args,argTypes⟩:=c'
  cases callee<;>simp only at h<;>try (cases h;done)
  rename_i b
  unfold ibuiltin at h
  split at h
  ·simp only[Option.map_eq_some_iff] at h;obtain⟨_,_,he⟩:=h;cases he
  ·rename_i t tx s x hts has
   have hs: ∃y∈args.toList,a.ev y=s:=by
    have:s∈args.toList.map a.ev:=by rw[has];simp
    simpa using this
   obtain⟨y,hy,hys⟩:=hs
   unfold iapp at h
   split at h
   ·split at h
    ·split at h
     ·cases h
     ·split at h
      ·rename_i zs new old hz hnew hold
       split at h
       ·cases h
       ·split at h
        ·split at h
         all_goals try (cases h;done)
         rename_i id i1 n1
         cases h
         simp only[srows] at hold
         split at hold
         ·rename_i b hb
          exact⟨y,b,hb,by simp[Op.operands,Call.operands];simpa using hy,by rw[hys];simp[ment]⟩
         ·cases hold
        ·cases h
      ·cases h
    ·cases h
   ·cases h
  ·rename_i t tx d x hts has
   unfold icopy at h
   split at h
   ·split at h
    ·split at h
     ·cases h
     ·split at h
      ·simp only at h
       split at h
       ·cases h
       ·split at h
        ·split at h
         ·split at h<;>cases h
         ·cases h
        ·cases h
      ·cases h
    ·cases h
   ·cases h
  ·simp only[Option.map_eq_some_iff] at h;obtain⟨_,_,he⟩:=h;cases he
  ·simp only[Option.map_eq_some_iff] at h;obtain⟨_,_,he⟩:=h;cases he
  ·cases h
theorem istore_eff{P:Program}{H:Heap}{t:TypeId}{p v:IV}{e:Eff}(h:istore P H t p v=some e): ∃id c b,e= .put id c∧H.get id=some b∧ment p id=true:=by
 unfold istore at h
 split at h
 ·split at h
  ·cases h
  ·rename_i b hb
   split at h
   ·cases h
   ·split at h
    ·cases h;exact⟨_,_,b,rfl,hb,by simp[ment]⟩
    ·cases h
 ·cases h
theorem icopy_eff{P:Program}{H:Heap}{t tx:TypeId}{d x v:IV}{e:Eff}(h:icopy P H t tx d x=some (v,e)):e= .none∨ ∃id c b,e= .put id c∧H.get id=some b∧ment d id=true:=by
 unfold icopy at h
 split at h
 ·split at h
  ·split at h
   ·cases h
   ·split at h
    ·simp only at h
     split at h
     ·cases h;exact .inl rfl
     ·split at h
      ·split at h
       ·rename_i b hb
        split at h
        ·cases h;exact .inr ⟨_,_,b,rfl,hb,by simp[ment]⟩
        ·cases h
       ·cases h
      ·cases h
    ·cases h
  ·cases h
 ·cases h
theorem iapp_noput{P:Program}{H:Heap}{k:Nat}{t tx:TypeId}{s x v:IV}{i:Id}{c:Blk}(h:iapp P H k t tx s x=some (v,.put i c)):False:=by
 unfold iapp at h
 split at h
 ·split at h
  ·split at h
   ·cases h
   ·split at h
    ·split at h
     ·cases h
     ·split at h
      ·split at h<;>cases h
      ·cases h
    ·cases h
  ·cases h
 ·cases h
theorem iop_puts{P:Program}{o:Oper}{a:Fr}{H:Heap}{v:IV}{i:Id}{c:Blk}(h:iop P o a H=some (v,.put i c)):isSt o.op=true∧ ∃x b,H.get i=some b∧x∈o.op.operands.toList∧ment (a.ev x) i=true:=by
 obtain⟨dst,op,type,pos,after,guard⟩:=o
 cases op<;>simp only[iop] at h<;>try (cases h;done)
 all_goals first
  |(simp only[Option.map_eq_some_iff] at h;obtain⟨_,_,he⟩:=h;cases he;done)
  |(split at h<;>(first|(cases h;done)|(split at h<;>cases h));done)
  |skip
 case build t ps=>
  split at h
  ·simp only[Option.map_eq_some_iff] at h;obtain⟨_,_,he⟩:=h;cases he
  ·cases h
 case makeMap t r=>cases r<;>cases h
 case mapUpdate t m x y=>
  simp only[Option.map_eq_some_iff] at h
  obtain⟨e,he,hh⟩:=h
  obtain⟨id,c',b,he',hb,hm⟩:=zzN he
  rw[he'] at hh
  cases hh
  exact⟨rfl,m,b,hb,by simp[Op.operands],hm⟩
 case store t x y=>
  simp only[Option.map_eq_some_iff] at h
  obtain⟨e,he,hh⟩:=h
  obtain⟨id,c',b,he',hb,hm⟩:=istore_eff he
  rw[he'] at hh
  cases hh
  exact⟨rfl,x,b,hb,by simp[Op.operands],hm⟩
 case call c'=>
  obtain⟨callee,args,argTypes⟩:=c'
  cases callee<;>simp only at h<;>try (cases h;done)
  rename_i b
  unfold ibuiltin at h
  split at h
  ·simp only[Option.map_eq_some_iff] at h;obtain⟨_,_,he⟩:=h;cases he
  ·exact(iapp_noput h).elim
  ·rename_i t tx d x hts has
   have hs: ∃y∈args.toList,a.ev y=d:=by
    have:d∈args.toList.map a.ev:=by rw[has];simp
    simpa using this
   obtain⟨y,hy,hyd⟩:=hs
   rcases icopy_eff h with h|⟨id,c',b,he,hb,hm⟩
   ·cases h
   ·cases he
    exact⟨rfl,y,b,hb,by simp[Op.operands,Call.operands];simpa using hy,by rw[hyd];exact hm⟩
  ·simp only[Option.map_eq_some_iff] at h;obtain⟨_,_,he⟩:=h;cases he
  ·simp only[Option.map_eq_some_iff] at h;obtain⟨_,_,he⟩:=h;cases he
  ·cases h
theorem iop_st{P:Program}{o:Oper}{a:Fr}{H:Heap}{v:IV}{e:Eff}(h:iop P o a H=some (v,e))(hs:isSt o.op=true):e.makes=false:=by
 obtain⟨dst,op,type,pos,after,guard⟩:=o
 cases op<;>try (simp[isSt] at hs;done)
 case store t x y=>
  simp only[iop,Option.map_eq_some_iff] at h
  obtain⟨e',he,hh⟩:=h
  obtain⟨id,c',b,he',hb,hm⟩:=istore_eff he
  cases hh
  rw[he'];rfl
 case mapUpdate t m x y=>
  simp only[iop,Option.map_eq_some_iff] at h
  obtain⟨e',he,hh⟩:=h
  obtain⟨id,c',b,he',hb,hm⟩:=zzN he
  cases hh
  rw[he'];rfl
 case call c'=>
  obtain⟨callee,args,argTypes⟩:=c'
  cases callee<;>try (simp[isSt] at hs;done)
  rename_i b
  cases b<;>try (simp[isSt] at hs;done)
  simp only[iop] at h
  unfold ibuiltin at h
  split at h
  all_goals first
   |(rcases icopy_eff h with h|⟨id,c',b,he,hb,hm⟩<;>first|(rw[h];rfl)|(rw[he];rfl))
   |contradiction
   |(cases h;done)
   |simp_all
theorem iop_nr{P:Program}{o:Oper}{a:Fr}{H:Heap}{v:IV}{i:Id}{c:Blk}(h:iop P o a H=some (v,.move i c)):reads o.op=true:=by
 obtain⟨dst,op,type,pos,after,guard⟩:=o
 cases op<;>simp only[iop] at h<;>try (cases h;done)
 all_goals first
  |rfl
  |(simp only[Option.map_eq_some_iff] at h;obtain⟨_,_,he⟩:=h;cases he;done)
  |(split at h<;>(first|(cases h;done)|(split at h<;>cases h));done)
  |skip
 case build t ps=>
  split at h
  ·simp only[Option.map_eq_some_iff] at h;obtain⟨_,_,he⟩:=h;cases he
  ·cases h
 case makeMap t r=>cases r<;>cases h
 case call c'=>
  obtain⟨callee,args,argTypes⟩:=c'
  cases callee<;>simp only at h<;>try (cases h;done)
  rename_i b
  unfold ibuiltin at h
  split at h
  ·simp only[Option.map_eq_some_iff] at h;obtain⟨_,_,he⟩:=h;cases he
  ·rfl
  ·rfl
  ·simp only[Option.map_eq_some_iff] at h;obtain⟨_,_,he⟩:=h;cases he
  ·simp only[Option.map_eq_some_iff] at h;obtain⟨_,_,he⟩:=h;cases he
  ·cases h
theorem iop_eff{P:Program}{o:Oper}{a:Fr}{H:Heap}{v:IV}{e:Eff}(h:iop P o a H=some (v,e)):
  (∀i c,e= .put i c→isSt o.op=true∧ ∃x b,H.get i=some b∧x∈o.op.operands.toList∧ment (a.ev x) i=true)∧(isSt o.op=true→e.makes=false)∧(reads o.op=false→(∀i c,e≠ .put i c)∧ ∀i c,e≠ .move i c):=by
 refine⟨fun i c hc=>?_,fun hs=>iop_st h hs,fun hr=>⟨fun i c hc=>?_,fun i c hc=>?_⟩⟩
 ·subst hc;exact iop_puts h
 ·subst hc
  have:=isSt_reads (iop_puts h).1
  rw[hr] at this;cases this
 ·subst hc
  have:=iop_nr h
  rw[hr] at this;cases this
theorem Stp.moves{P:Program}{ops:Array Oper}{prev:List Nat}{o:Oper}{a:Fr}{H H':Heap}{v:IV}(h:Stp P ops prev o a H v H'):
  ∃e:Eff,((∀i c,e= .put i c→isSt o.op=true∧ ∃x b,H.get i=some b∧x∈o.op.operands.toList∧ment (a.ev x) i=true)∧(isSt o.op=true→e.makes=false)∧(reads o.op=false→(∀i c,e≠ .put i c)∧ ∀i c,e≠ .move i c))∧H'=e.app H (a.b+o.dst.getD 0)∧(e.makes=true→o.dst.isSome=true)∧
   (∀i c,e= .move i c→ ∀j∈prev,∀oj,ops[j]?=some oj→reads oj.op=true→ ∀x∈oj.op.operands.toList,ment (a.ev x) i=false)∧
   (∀i c,e= .move i c→ ∃x b,H.get i=some b∧x∈o.op.operands.toList∧ment (a.ev x) i=true)∧
   (∀i c,e= .put i c→ ∀j∈prev,∀oj,ops[j]?=some oj→reads oj.op=true→waitsT ops ops.size o j=true∨ ∀x∈oj.op.operands.toList,ment (a.ev x) i=false)∧
   ∀(prev':List Nat) (a':Fr) (G:Heap),(∀x∈o.op.operands.toList,a'.ev x=a.ev x)→iwant ops o a'=iwant ops o a→a'.has o.dst=a.has o.dst→a'.b=a.b→
    (∀id b,H.get id=some b→reads o.op=true→(∃x∈o.op.operands.toList,ment (a.ev x) id=true)→G.get id=some b)→(e.makes=true→G.fresh (a.b+o.dst.getD 0)=H.fresh (a.b+o.dst.getD 0))→
    (∀i c,e= .move i c→ ∀j∈prev',∀oj,ops[j]?=some oj→reads oj.op=true→ ∀x∈oj.op.operands.toList,ment (a'.ev x) i=false)→
    (∀i c,e= .put i c→ ∀j∈prev',∀oj,ops[j]?=some oj→reads oj.op=true→waitsT ops ops.size o j=true∨ ∀x∈oj.op.operands.toList,ment (a'.ev x) i=false)→Stp P ops prev' o a' G v (e.app G (a.b+o.dst.getD 0)):=by
 obtain⟨hd,h⟩:=h
 rcases h with ⟨hw,rfl,rfl⟩|⟨hw,h⟩
 ·refine⟨.none,⟨by simp,fun _=>rfl,by simp⟩,rfl,by simp[Eff.makes],by simp,by simp,by simp,fun prev' a' G hev hwa hha hba hg hfr hmv hpt=>⟨by rw[hha];exact hd,.inl ⟨by rw[hwa];exact hw,rfl,rfl⟩⟩⟩
 ·rcases h with ⟨e,he,hk,rfl⟩|⟨hn,rfl,c,f,args,hc,hcal,hp⟩
  ·refine⟨e,iop_eff he,rfl,?_,?_,?_,?_,fun prev' a' G hev hwa hha hba hg hfr hmv hpt=>⟨by rw[hha];exact hd,.inr ⟨by rw[hwa];exact hw,.inl ⟨e,iop_local he hev hg hba hfr,?_,by rw[hba]⟩⟩⟩⟩
   ·intro hm
    cases e with
    |new c=>exact hk
    |move i c=>exact hk.1
    |_=>simp[Eff.makes] at hm
   ·rintro i c rfl;exact hk.2
   ·rintro i c rfl
    exact iop_moves he
   ·rintro i c rfl;exact hk
   ·cases e with
    |none=>trivial
    |put i c=>exact hpt i c rfl
    |new c=>exact hk
    |move i c=>exact⟨hk.1,hmv i c rfl⟩
  ·refine⟨.none,⟨by simp,fun _=>rfl,by simp⟩,rfl,by simp[Eff.makes],by simp,by simp,by simp,fun prev' a' G hev hwa hha hba hg hfr hmv hpt=>⟨by rw[hha];exact hd,.inr ⟨by rw[hwa];exact hw,.inr ⟨?_,rfl,c,f,args,hc,?_,hp⟩⟩⟩⟩
   ·unfold icallee at hcal
    split at hcal
    ·rename_i x hx
     simp only[iop,hc,hx]
    ·cases hcal
   ·have hop:o.op.operands=c.operands:=by rw[hc];rfl
    have hev': ∀x∈c.operands.toList,a'.ev x=a.ev x:=fun x hx=>hev x (by rw[hop];exact hx)
    rw[←hcal]
    unfold icallee
    split
    ·rename_i x hx
     rw[hev' x (by simp[Call.operands,hx])]
     rw[List.map_congr_left (g:=a.ev) (fun y hy=>hev' y (by simp[Call.operands,hx];exact .inr (by simpa using hy)))]
    ·rfl
theorem put_new_comm{H:Heap}{id:Id}{c c':Blk}{k j:Nat}(hl:id.g<H.next id.k):(Eff.put id c).app ((Eff.new c').app H k) j=(Eff.new c').app ((Eff.put id c).app H j) k:=by
 have e:id≠⟨k,H.next k⟩:=by rintro rfl;simp at hl
 simp only[Eff.app,Heap.put,Heap.new,Heap.fresh,Heap.mk.injEq,and_true]
 funext q
 by_cases h1:q=id
 ·subst h1;simp[e]
 ·by_cases h2:q=⟨k,H.next k⟩
  ·simp[h1,h2]
   intro h3;exact absurd h3.symm e
  ·simp[h1,h2]
theorem put_move_comm{H:Heap}{id i2:Id}{c c':Blk}{k j:Nat}(hl:id.g<H.next id.k)(hne:i2≠id):(Eff.put id c).app ((Eff.move i2 c').app H k) j=(Eff.move i2 c').app ((Eff.put id c).app H j) k:=by
 have e:id≠⟨k,H.next k⟩:=by rintro rfl;simp at hl
 simp only[Eff.app,Heap.put,Heap.new,Heap.del,Heap.fresh,Heap.mk.injEq,and_true]
 funext q
 by_cases h1:q=id
 ·subst h1;simp[e,Ne.symm hne]
 ·by_cases h2:q=⟨k,H.next k⟩
  ·simp[h1,h2]
   intro h3;exact absurd h3.symm e
  ·simp[h1,h2]
theorem swap{P:Program}{ops:Array Oper}{prev prevI prevI':List Nat}{j:Nat}{oj oi:Oper}(hoj:ops[j]?=some oj)(hjp:j∈prevI)(hap:Apart ops j oj oi){a:Fr}{H H1 H2:Heap}{vj vi:IV}(hx:RelEx a H)
  (hj:Stp P ops prev oj a H vj H1) (hi:Stp P ops prevI oi (a.putO oj.dst vj) H1 vi H2) (hpi: ∀k∈prevI',k∈prevI) (hpa: ∀k∈prevI',∀ok,ops[k]?=some ok→ ∀d,oj.dst=some d→d∉ok.looksAt ops)
  (hpb: ∀k∈prev,∀ok,ops[k]?=some ok→ ∀d,oi.dst=some d→d∉ok.looksAt ops):
  ∃G,Stp P ops prevI' oi a H vi G∧Stp P ops prev oj (a.putO oi.dst vi) G vj H2:=by
 obtain⟨ej,j1,j2,j3,j4,j5,j7,j6⟩:=hj.moves
 obtain⟨ei,i1,i2,i3,i4,i5,i7,i6⟩:=hi.moves
 rw[putO_b] at i2 i6
 subst j2
 have hevI: ∀x∈oi.op.operands.toList,(a.putO oj.dst vj).ev x=a.ev x:=fun x hx'=>kH hap.ji hx'
 have hevJ: ∀x∈oj.op.operands.toList,(a.putO oi.dst vi).ev x=a.ev x:=fun x hx'=>kH hap.ij hx'
 by_cases hsj:isSt oj.op=true
 ·obtain⟨i1a,i1b⟩:=i1.2.2 (hap.sj hsj)
  have hmj:=j1.2.1 hsj
  have hnj: ∀k,(ej.app H (a.b+oj.dst.getD 0)).next k=H.next k:=fun k=>by
   cases ej<;>first|rfl|simp[Eff.makes] at hmj
  have hI:Stp P ops prevI' oi a H vi (ei.app H (a.b+oi.dst.getD 0)):=by
   refine i6 prevI' a H (fun x hx'=>(hevI x hx').symm) (yy hap.ji).symm (kg a oj.dst oi.dst vj).symm rfl ?_ (fun _=>by simp only[Heap.fresh,hnj]) (fun i c he=>absurd he (i1b i c)) (fun i c he=>absurd he (i1a i c))
   intro id b hb hr
   rw[hap.sj hsj] at hr;cases hr
  refine⟨_,hI,?_⟩
  have hJ:Stp P ops prev oj (a.putO oi.dst vi) (ei.app H (a.b+oi.dst.getD 0)) vj (ej.app (ei.app H (a.b+oi.dst.getD 0)) (a.b+oj.dst.getD 0)):=by
   refine j6 prev _ _ hevJ (yy hap.ij) (kg a oi.dst oj.dst vi) (putO_b a oi.dst vi) ?_ (fun h=>by rw[hmj] at h;cases h) ?_ (fun i c he k hk ok hok hrd=>(j7 i c he k hk ok hok hrd).imp id fun q x hx'=>by rw[kH (hpb k hk ok hok) hx'];exact q x hx')
   ·rintro id b hb hr ⟨x,hx',hm⟩
    refine app_keeps hb i1a ?_ (fun i c he=>absurd he (i1b i c))
    intro h
    have:=hx.live hb
    rw[h] at this
    simp[Heap.fresh] at this
   ·intro i c he
    subst he;simp[Eff.makes] at hmj
  have hcomm:ej.app (ei.app H (a.b+oi.dst.getD 0)) (a.b+oj.dst.getD 0)=ei.app (ej.app H (a.b+oj.dst.getD 0)) (a.b+oi.dst.getD 0):=by
   cases ej with
   |none=>rfl
   |new c=>simp[Eff.makes] at hmj
   |move i c=>simp[Eff.makes] at hmj
   |put i c=>
    obtain⟨_,x,b,hb,hx',hm⟩:=j1.1 i c rfl
    have hlive:=hx.live hb
    cases ei with
    |none=>rfl
    |put i c=>exact absurd rfl (i1a i c)
    |move i c=>exact absurd rfl (i1b i c)
    |new c'=>exact put_new_comm hlive
  rw[hcomm,←i2] at hJ
  exact hJ
 have j1a: ∀i c,ej≠ .put i c:=fun i c he=>hsj (j1.1 i c he).1
 by_cases hsi:isSt oi.op=true
 ·have hmi:=i1.2.1 hsi
  have hni: ∀k,(ei.app H (a.b+oi.dst.getD 0)).next k=H.next k:=fun k=>by
   cases ei<;>first|rfl|simp[Eff.makes] at hmi
  have hI:Stp P ops prevI' oi a H vi (ei.app H (a.b+oi.dst.getD 0)):=by
   refine i6 prevI' a H (fun x hx'=>(hevI x hx').symm) (yy hap.ji).symm (kg a oj.dst oi.dst vj).symm rfl ?_ (fun h=>by rw[hmi] at h;cases h) (fun i c he=>by subst he;simp[Eff.makes] at hmi) ?_
   ·rintro id b hb hr ⟨x,hx',hm⟩
    rcases app_get hb j1a with h|h
    ·exfalso
     rw[hevI x hx'] at hm
     have:=hx.old hm
     rw[h] at this
     simp[Heap.fresh] at this
    ·exact h
   ·intro i c he k hk ok hok hrd
    refine(i7 i c he k (hpi k hk) ok hok hrd).imp id fun q x hx'=>?_
    have:=q x hx'
    rwa [kH (hpa k hk ok hok) hx'] at this
  refine⟨_,hI,?_⟩
  have hment: ∀i c,ei= .put i c→reads oj.op=true→ ∀x∈oj.op.operands.toList,ment (a.ev x) i=false:=by
   intro i c he hrd x hx'
   rcases i7 i c he j hjp oj hoj hrd with h|h
   ·rw[hap.nw] at h;cases h
   ·have:=h x hx'
    rwa [kH (ops:=ops) (o:=oj) (fun d hd=>hap.jj d hd) hx'] at this
  have hJ:Stp P ops prev oj (a.putO oi.dst vi) (ei.app H (a.b+oi.dst.getD 0)) vj (ej.app (ei.app H (a.b+oi.dst.getD 0)) (a.b+oj.dst.getD 0)):=by
   refine j6 prev _ _ hevJ (yy hap.ij) (kg a oi.dst oj.dst vi) (putO_b a oi.dst vi) ?_ (fun _=>by simp only[Heap.fresh,hni]) ?_ (fun i c he=>absurd he (j1a i c))
   ·rintro id b hb hr ⟨x,hx',hm⟩
    cases ei with
    |none=>exact hb
    |new c=>simp[Eff.makes] at hmi
    |move i c=>simp[Eff.makes] at hmi
    |put i c=>
     have h0:=hment i c rfl hr x hx'
     have hne:id≠i:=by rintro rfl;rw[h0] at hm;cases hm
     simp[Eff.app,Heap.put,hne,hb]
   ·intro i c he k hk ok hok hrd x hx'
    have:=j4 i c he k hk ok hok hrd x hx'
    rwa [kH (hpb k hk ok hok) hx']
  have hcomm:ej.app (ei.app H (a.b+oi.dst.getD 0)) (a.b+oj.dst.getD 0)=ei.app (ej.app H (a.b+oj.dst.getD 0)) (a.b+oi.dst.getD 0):=by
   cases ei with
   |none=>rfl
   |new c=>simp[Eff.makes] at hmi
   |move i c=>simp[Eff.makes] at hmi
   |put i c=>
    obtain⟨_,x,b,hb,hx',hm⟩:=i1.1 i c rfl
    rw[hevI x hx'] at hm
    have hlive:=hx.old hm
    cases ej with
    |none=>rfl
    |put i c=>exact absurd rfl (j1a i c)
    |move q2 c2=>
     obtain⟨y,b2,hb2,hy,hm2⟩:=j5 q2 c2 rfl
     have hrd:reads oj.op=true:=by
      cases hr:reads oj.op with
      |true=>rfl
      |false=>exact absurd rfl ((j1.2.2 hr).2 q2 c2)
     have hne:q2≠i:=by rintro rfl;rw[hment _ c rfl hrd y hy] at hm2;cases hm2
     exact(put_move_comm hlive hne).symm
    |new c'=>exact(put_new_comm hlive).symm
  rw[hcomm,←i2] at hJ
  exact hJ
 have j1: ∀i c,ej≠ .put i c:=fun i c he=>hsj (j1.1 i c he).1
 have i1: ∀i c,ei≠ .put i c:=fun i c he=>hsi (i1.1 i c he).1
 have hlab:ej.makes=true→ei.makes=true→a.b+oj.dst.getD 0≠a.b+oi.dst.getD 0:=by
  intro h1 h2
  obtain⟨dj,hdj⟩:=Option.isSome_iff_exists.1 (j3 h1)
  obtain⟨di,hdi⟩:=Option.isSome_iff_exists.1 (i3 h2)
  rw[hdj,hdi]
  intro he
  simp only[Option.getD_some,Nat.add_left_cancel_iff] at he
  exact hap.d dj hdj (by rw[hdi,he])
 have freshI:ei.makes=true→H.fresh (a.b+oi.dst.getD 0)=(ej.app H (a.b+oj.dst.getD 0)).fresh (a.b+oi.dst.getD 0):=by
  intro h2
  by_cases h1:ej.makes=true
  ·simp only[Heap.fresh,app_next j1 (fun h=>hlab h1 h2 h.symm)]
  ·rw[yX (by simpa using h1) j1]
 have hI:Stp P ops prevI' oi a H vi (ei.app H (a.b+oi.dst.getD 0)):=by
  refine i6 prevI' a H (fun x hx'=>(hevI x hx').symm) (yy hap.ji).symm (kg a oj.dst oi.dst vj).symm rfl ?_ freshI ?_ ?_
  ·rintro id b hb hr ⟨x,hx',hm⟩
   rcases app_get hb j1 with h|h
   ·exfalso
    rw[hevI x hx'] at hm
    have:=hx.old hm
    rw[h] at this
    simp[Heap.fresh] at this
   ·exact h
  ·intro i c he k hk ok hok hrd x hx'
   have:=i4 i c he k (hpi k hk) ok hok hrd x hx'
   rwa [kH (hpa k hk ok hok) hx'] at this
  ·exact fun i c he=>absurd he (i1 i c)
 refine⟨_,hI,?_⟩
 have freshJ:ej.makes=true→(ei.app H (a.b+oi.dst.getD 0)).fresh (a.b+oj.dst.getD 0)=H.fresh (a.b+oj.dst.getD 0):=by
  intro h1
  by_cases h2:ei.makes=true
  ·simp only[Heap.fresh,app_next i1 (hlab h1 h2)]
  ·rw[yX (by simpa using h2) i1]
 have hJ:Stp P ops prev oj (a.putO oi.dst vi) (ei.app H (a.b+oi.dst.getD 0)) vj (ej.app (ei.app H (a.b+oi.dst.getD 0)) (a.b+oj.dst.getD 0)):=by
  refine j6 prev _ _ hevJ (yy hap.ij) (kg a oi.dst oj.dst vi) (putO_b a oi.dst vi) ?_ freshJ ?_ (fun i c he=>absurd he (j1 i c))
  ·rintro id b hb hr ⟨x,hx',hm⟩
   by_cases h2:ei.makes=true
   ·refine app_keeps hb i1 ?_ ?_
    ·intro h
     have:=hx.live hb
     rw[h] at this
     simp[Heap.fresh] at this
    ·intro i c he hid
     subst hid
     have:=i4 id c he j hjp oj hoj hr x hx'
     rw[kH (ops:=ops) (o:=oj) (fun d hd=>hap.jj d hd) hx',hm] at this
     cases this
   ·rw[yX (by simpa using h2) i1];exact hb
  ·intro i c he k hk ok hok hrd x hx'
   have:=j4 i c he k hk ok hok hrd x hx'
   rwa [kH (hpb k hk ok hok) hx']
 have hcomm:ej.app (ei.app H (a.b+oi.dst.getD 0)) (a.b+oj.dst.getD 0)=ei.app (ej.app H (a.b+oj.dst.getD 0)) (a.b+oi.dst.getD 0):=by
  refine app_comm i1 j1 (fun h2 h1=>(hlab h1 h2).symm) ?_ ?_
  ·intro i c he hid
   obtain⟨x,b,hb,hx',hm⟩:=i5 i c he
   rw[hevI x hx'] at hm
   have:=hx.old hm
   rw[hid] at this
   simp[Heap.fresh] at this
  ·intro i c he hid
   obtain⟨x,b,hb,hx',hm⟩:=j5 i c he
   have:=hx.old hm
   rw[hid] at this
   simp[Heap.fresh] at this
 rw[hcomm,←i2] at hJ
 exact hJ
theorem exch{P:Program}{ops:Array Oper}{i:Nat}{o:Oper}(ho:ops[i]?=some o){K:Fr→Heap→Prop}{post:List Nat}: ∀(pre prev:List Nat) (a:Fr) (H:Heap),
  (∀j∈pre,∀oj,ops[j]?=some oj→Apart ops j oj o)→(∀k∈prev++pre,∀ok,ops[k]?=some ok→ ∀d,o.dst=some d→d∉ok.looksAt ops)→
  (∀j∈pre,∀oj,ops[j]?=some oj→ ∀k∈prev,∀ok,ops[k]?=some ok→ ∀d,oj.dst=some d→d∉ok.looksAt ops)→
  (∀(p q:Nat),(∃l1 l2 l3,pre=l1++p::l2++q::l3)→ ∀op oq,ops[p]?=some op→ops[q]?=some oq→ ∀d,oq.dst=some d→d∉op.looksAt ops)→
  RelEx a H→vcPre P ops prev (pre++i::post) K a H→ ∃v H',Stp P ops prev o a H v H'∧vcPre P ops prev (pre++post) K (a.putO o.dst v) H'
 |[],prev,a,H,_,_,_,_,hx,h=>by
  obtain⟨o',v,H',ho',hst,h⟩:=h
  rw[ho] at ho';cases ho'
  exact⟨v,H',hst,vcPre_prev _ _ _ _ _ h fun j hj=>List.mem_append_left _ hj⟩
 |j::pre,prev,a,H,hap,hlk,hlk2,hlk3,hx,h=>by
  obtain⟨oj,vj,H1,hoj,hst,h⟩:=h
  obtain⟨v,H2,hsi,hrest⟩:=exch ho pre (prev++[j]) (a.putO oj.dst vj) H1 (fun k hk=>hap k (by simp[hk])) (fun k hk=>hlk k (by simpa using hk))
   (fun q hq oq hoq k hk ok hok d hd=>by
    rcases List.mem_append.1 hk with hk|hk
    ·exact hlk2 q (by simp[hq]) oq hoq k hk ok hok d hd
    ·simp at hk
     subst hk
     obtain⟨l2,l3,rfl⟩:=List.append_of_mem hq
     exact hlk3 k q ⟨[],l2,l3,by simp⟩ ok oq hok hoq d hd)
   (fun p q ⟨l1,l2,l3,e⟩=>hlk3 p q ⟨j::l1,l2,l3,by simp[e]⟩) (hx.step hst hoj) h
  obtain⟨G,s1,s2⟩:=swap (prevI':=prev) hoj (by simp) (hap j (by simp) oj hoj) hx hst hsi (fun k hk=>by simp[hk]) (fun k hk ok hok d hd=>hlk2 j (by simp) oj hoj k hk ok hok d hd) (fun k hk ok hok d hd=>hlk k (by simp[hk]) ok hok d hd)
  refine⟨v,G,s1,oj,vj,H2,hoj,s2,?_⟩
  rw[putO_comm a v vj (fun t ht he=>(hap j (by simp) oj hoj).d t he ht)]
  exact hrest
end Go.Proofs.Ytoojnagdenoknaa.IL
