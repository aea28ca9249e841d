/- The ideal logic, part 5: slicing, and operations that make or change memory. Nothing here speaks of a given program. -/
import Derived.Test.YtoojnagdenoknaaIL4
set_option linter.unusedSectionVars false
set_option linter.unnecessarySimpa false
set_option linter.unusedVariables false
set_option linter.unusedSimpArgs false
namespace Go.Proofs.Ytoojnagdenoknaa.IL
open Go Go.RowKit
def VRo(J:Inj)(S:Sure):Option IV→Option Value→Prop
 |none,none=>True
 |some v,some u=>VR J S v u
 |_,_=>False
def bnd(x:Option IV)(dflt top:Nat):Option Nat:=
 match x with
 |none=>some dflt
 |some (.int _ n)=>if 0≤n∧n≤top then some n.toNat else none
 |some _=>none
def ibnd(lo hi mx:Option IV)(len:Nat):Option (Nat×Nat×Option Nat):=
 match mx with
 |none=>match bnd hi len len with
  |none=>none
  |some h=>match bnd lo 0 h with
   |none=>none
   |some l=>some (l,h,none)
 |some m=>match bnd (some m) len len,hi with
  |some m,some x=>match bnd (some x) m m with
   |none=>none
   |some h=>match bnd lo 0 h with
    |none=>none
    |some l=>some (l,h,some m)
  |_,_=>none
theorem bnd_le{x:Option IV}{d top n:Nat}(h:bnd x d top=some n)(hd:d≤top):n≤top:=by
 unfold bnd at h
 split at h
 ·cases h;exact hd
 ·split at h
  ·rename_i hc;cases h;omega
  ·cases h
 ·cases h
theorem ko{lo hi mx:Option IV}{len l h:Nat}{m:Option Nat}(e:ibnd lo hi mx len=some (l,h,m)):l≤h∧h≤len∧ ∀k,m=some k→h≤k∧k≤len:=by
 unfold ibnd at e
 split at e
 ·split at e
  ·cases e
  ·rename_i h' hh
   split at e
   ·cases e
   ·rename_i l' hl
    cases e
    exact⟨bnd_le hl (Nat.zero_le _),bnd_le hh (Nat.le_refl _),by simp⟩
 ·split at e
  ·rename_i m' x hm
   split at e
   ·cases e
   ·rename_i h' hh
    split at e
    ·cases e
    ·rename_i l' hl
     cases e
     have h1:=bnd_le hm (Nat.le_refl _)
     have h2:=bnd_le hh (Nat.le_refl _)
     exact⟨bnd_le hl (Nat.zero_le _),by omega,fun k hk=>by cases hk;exact⟨h2,h1⟩⟩
  ·cases e
theorem kI{P:Program}{J:Inj}{S:Sure}{v:IV}{u:Value}{d top top' n:Nat}(h:bnd (some v) d top=some n)(hv:VR J S v u)(ht:top≤top')(code:BoundsCode)(w:World):(Instr.sliceBound u top' code).run P w= .ok n w:=by
 unfold bnd at h
 split at h
 ·rename_i h';cases h'
 ·rename_i k m h'
  cases h'
  split at h
  ·rename_i hc;cases h;cases hv
   exact run_sliceBound w _ _ _ _ hc.1 (by omega)
  ·cases h
 ·cases h
theorem zzE{P:Program}{J:Inj}{S:Sure}{lo hi mx:Option IV}{lo' hi' mx':Option Value}{len cap l h:Nat}{m:Option Nat}(e:ibnd lo hi mx len=some (l,h,m))(h1:VRo J S lo lo')(h2:VRo J S hi hi')(h3:VRo J S mx mx')
  (hc:len≤cap) (b:Bool) (w:World):(Instr.sliceBounds b len cap lo' hi' mx').run P w= .ok (l,h,m.getD cap) w:=by
 unfold ibnd at e
 split at e
 ·cases mx' with
  |some _=>exact h3.elim
  |none=>
   split at e
   ·cases e
   ·rename_i hv hh
    split at e
    ·cases e
    ·rename_i lv hl
     cases e
     cases hi<;>cases hi'<;>simp only[VRo] at h2<;>cases lo<;>cases lo'<;>simp only[VRo] at h1
     ·simp only[bnd,Option.some.injEq] at hh hl;subst hh;subst hl
      simp[Instr.sliceBounds]
     ·simp only[bnd,Option.some.injEq] at hh;subst hh
      simp[Instr.sliceBounds,kI (P:=P) hl h1 (Nat.le_refl _) _ w]
     ·simp only[bnd,Option.some.injEq] at hl;subst hl
      simp[Instr.sliceBounds,kI (P:=P) hh h2 hc _ w]
     ·simp[Instr.sliceBounds,kI (P:=P) hh h2 hc _ w,kI (P:=P) hl h1 (Nat.le_refl _) _ w]
 ·cases mx' with
  |none=>exact h3.elim
  |some mv'=>
   split at e
   ·rename_i mv m' x hm
    cases hi' with
    |none=>exact h2.elim
    |some xv=>
     split at e
     ·cases e
     ·rename_i hv hh
      split at e
      ·cases e
      ·rename_i lv hl
       cases e
       cases lo<;>cases lo'<;>simp only[VRo] at h1
       ·simp only[bnd,Option.some.injEq] at hl;subst hl
        simp[Instr.sliceBounds,kI (P:=P) hm h3 hc _ w,kI (P:=P) hh h2 (Nat.le_refl _) _ w]
       ·simp[Instr.sliceBounds,kI (P:=P) hm h3 hc _ w,kI (P:=P) hh h2 (Nat.le_refl _) _ w,kI (P:=P) hl h1 (Nat.le_refl _) _ w]
   ·cases e
def fullOf(full:Bool)(h len:Nat):Option Nat→Bool
 |none=>full&&h==len
 |some m=>m==h
def islice(P:Program)(H:Heap)(t:TypeId)(x:IV)(lo hi mx:Option IV):Option IV:=
 match tc P t with
 |none=>none
 |some C=>match C.kd,x with
  | .string,.str s=>match mx with
   |some _=>none
   |none=>match ibnd lo hi none s.size with
    |some (l,h,_)=>some (.str (s.extract l h))
    |none=>none
  | .slice e,.nils=>match tc P e,ibnd lo hi mx 0 with
   |some _,some _=>some .nils
   |_,_=>none
  | .slice e,.sim rows full=>match tc P e,ibnd lo hi mx rows.length with
   |some D,some (l,h,m)=>if ∀r∈rows,r.length=D.size then some (.sim ((rows.drop l).take (h-l)) (fullOf full h rows.length m)) else none
   |_,_=>none
  | .slice e,.sb id i n full=>match tc P e,ibnd lo hi mx n,H.get id with
   |some D,some (l,h,m),some b=>if b.E=D.size then some (.sb id (i+l) (h-l) (fullOf full h n m)) else none
   |_,_,_=>none
  |_,_=>none
theorem zza{P:Program}{t e:TypeId}{a:Option Addr}{n c l h k sz:Nat}{lo hi mx:Option Value}(hu:P.underlying t=some (.slice e))(w:World)(hb:(Instr.sliceBounds true n c lo hi mx).run P w= .ok (l,h,k) w)
  (hs:(sizeOf e).run P w= .ok sz w):(Instr.sliceAt t (.slice a n c) lo hi mx).run P w= .ok (sliced a l h k sz) w:=by
 simp[Instr.sliceAt,run_underlying hu,Instr.slice,hb,hs,sliced]
theorem slice_sound{P:Program}{H:Heap}{t:TypeId}{x v:IV}{lo hi mx:Option IV}(e:islice P H t x lo hi mx=some v){J:Inj}{S:Sure}{w:World}(hH:RelH J S H w){u:Value}{lo' hi' mx':Option Value}(hx:VR J S x u)
  (h1:VRo J S lo lo') (h2:VRo J S hi hi') (h3:VRo J S mx mx'): ∃r,(Instr.sliceAt t u lo' hi' mx').run P w= .ok r w∧VR J S v r:=by
 unfold islice at e
 split at e
 ·cases e
 ·rename_i C hC
  obtain⟨i,d,hinf,hu,hsz,hby,hag,hzero,hkd,hflat⟩:=zZ hC
  split at e
  ·rename_i s hk
   rw[hk] at hkd;have:=kM hkd;subst this
   split at e
   ·cases e
   ·split at e
    ·rename_i l h m hb
     cases e;cases hx
     cases mx' with
     |some _=>exact h3.elim
     |none=>
      have hr:=zzE (P:=P) hb h1 h2 h3 (Nat.le_refl _) false w
      exact⟨_,by simp[Instr.sliceAt,run_underlying hu,Instr.slice,hr],.str _⟩
    ·cases e
  ·rename_i e' hk
   rw[hk] at hkd;have:=yK hkd;subst this
   split at e
   ·rename_i D q hD hb
    obtain⟨l,h,m⟩:=q
    obtain⟨i',d',hinf',hu',hsz',hby',hag',hzero',hkd',hflat'⟩:=zZ hD
    cases e;cases hx
    have hr:=zzE (P:=P) hb h1 h2 h3 (Nat.le_refl _) true w
    obtain⟨f1,f2,f3⟩:=ko hb
    have hl:l=0:=by omega
    have hh:h=0:=by omega
    have hm:m.getD 0=0:=by
     cases m with
     |none=>rfl
     |some k=>have:=f3 k rfl;simp;omega
    subst hl;subst hh
    rw[hm] at hr
    refine⟨.slice none 0 0,?_,.nils⟩
    simp only[Instr.sliceAt,Sem.run_bind,run_underlying hu,Result.andThen_ok,Instr.slice,hr]
    simp[sizeOf,typeInfo,hinf']
   ·cases e
  ·rename_i e' rows full hk
   rw[hk] at hkd;have:=yK hkd;subst this
   split at e
   ·rename_i D l h m hD hb
    obtain⟨i',d',hinf',hu',hsz',hby',hag',hzero',hkd',hflat'⟩:=zZ hD
    have hs:(sizeOf e').run P w= .ok D.size w:=by rw[yF (zw hu')];simp[szOf,hinf',hsz']
    split at e
    ·rename_i hE
     cases e
     obtain⟨f1,f2,f3⟩:=ko hb
     cases hx with
     |sim hE' hS hV hc hf=>
      rename_i c E base f
      have hr:=zzE (P:=P) hb h1 h2 h3 hc true w
      refine⟨_,zza hu w hr hs,?_⟩
      have hlen:((rows.drop l).take (h-l)).length=h-l:=by simp;omega
      have hcap:h≤m.getD c:=by
       cases m with
       |none=>simp;omega
       |some k=>exact(f3 k rfl).1
      have key: ∀(ad:Addr),(0<h-l→ad=base.add (l*E))→VR J S (.sim ((rows.drop l).take (h-l)) (fullOf full h rows.length m)) (.slice (some ad) (h-l) (m.getD c-l)):=by
       intro ad had
       have hget: ∀(r:Nat) (row:List IV),((rows.drop l).take (h-l))[r]?=some row→rows[l+r]?=some row∧r<h-l:=by
        intro r row hrow
        rw[List.getElem?_take] at hrow
        split at hrow
        ·rw[List.getElem?_drop] at hrow;rename_i hlt;exact⟨hrow,hlt⟩
        ·cases hrow
       have:=VR.sim (J:=J) (S:=S) (rows:=(rows.drop l).take (h-l)) (full:=fullOf full h rows.length m) (c:=m.getD c-l) (E:=E) (base:=ad) (f:=fun r k=>f (l+r) k)
        (fun r row hrow=>hE' _ row (hget r row hrow).1)
        (fun r row k v hrow hk=>by
         obtain⟨g1,g2⟩:=hget r row hrow
         have:=hS _ row k v g1 hk
         rw[had (by omega),zzQ,show l*E+(r*E+k)=(l+r)*E+k by rw[Nat.add_mul];omega]
         exact this)
        (fun r row k v hrow hk=>hV _ row k v (hget r row hrow).1 hk)
        (by rw[hlen];omega)
        (fun hfull=>by
         rw[hlen]
         cases m with
         |none=>
          simp only[fullOf,Bool.and_eq_true,beq_iff_eq] at hfull
          have:=hf hfull.1
          simp;omega
         |some k=>simp only[fullOf,beq_iff_eq] at hfull;simp;omega)
       rw[hlen] at this
       exact this
      unfold sliced
      split
      ·rename_i hml;exact key base (by intro hpos;omega)
      ·refine key _ (fun hpos=>?_)
       have:E=D.size:=by
        have hl':l<rows.length:=by omega
        rw[←hE' l rows[l] (by simp[hl'])]
        exact hE _ (List.getElem_mem hl')
       rw[this]
     |simnil=>
      have hr:=zzE (P:=P) hb h1 h2 h3 (Nat.le_refl _) true w
      refine⟨_,zza hu w hr hs,?_⟩
      simp only[List.length_nil] at f2 f3
      have hl:l=0:=by omega
      have hh:h=0:=by omega
      have hm:m.getD 0=0:=by
       cases m with
       |none=>rfl
       |some k=>have:=f3 k rfl;simp;omega
      subst hl;subst hh
      simp only[List.length_nil,hm,sliced,if_true,Nat.sub_self,List.drop_nil,List.take_nil]
      exact .simnil
    ·cases e
   ·cases e
  ·rename_i e' id i0 n full hk
   rw[hk] at hkd;have:=yK hkd;subst this
   split at e
   ·rename_i D l h m b hD hb hid
    obtain⟨i',d',hinf',hu',hsz',hby',hag',hzero',hkd',hflat'⟩:=zZ hD
    have hs:(sizeOf e').run P w= .ok D.size w:=by rw[yF (zw hu')];simp[szOf,hinf',hsz']
    split at e
    ·rename_i hE
     cases e
     obtain⟨f1,f2,f3⟩:=ko hb
     cases hx with
     |sb hL hc hz hf hm=>
      rename_i L c ad
      have hr:=zzE (P:=P) hb h1 h2 h3 hc true w
      refine⟨_,zza hu w hr hs,?_⟩
      obtain⟨L',hL',hat⟩:=hH.blk id b hid
      rw[hL] at hL';cases hL'
      replace hat:=hat.reg hm
      have hLE:L.E=D.size:=by rw[hat.E,hE]
      have hcap:h≤m.getD c∧m.getD c≤c:=by
       cases m with
       |none=>simp;omega
       |some k=>have:=f3 k rfl;simp;omega
      have hful:fullOf full h n m=true→m.getD c-l=h-l:=by
       intro hfull
       cases m with
       |none=>
        simp only[fullOf,Bool.and_eq_true,beq_iff_eq] at hfull
        have:=hf hfull.1
        simp;omega
       |some k=>simp only[fullOf,beq_iff_eq] at hfull;simp;omega
      unfold sliced
      split
      ·rename_i hml
       exact .sb hL (by omega) (fun hne=>by omega) hful
      ·rename_i hml
       refine .sb hL (by omega) (fun hne=>?_) hful
       obtain⟨z1,z2⟩:=hz (by omega)
       subst z1
       refine⟨?_,?_⟩
       ·show(⟨L.rb,L.ro+i0*L.E,none⟩:Addr).add (l*D.size)=_
        rw[yO,hLE,Nat.add_mul,Nat.add_assoc]
       ·have:(i0+l+(m.getD c-l))*L.E≤(i0+c)*L.E:=Nat.mul_le_mul_right _ (by omega)
        omega
    ·cases e
   ·cases e
  ·cases e
end Go.Proofs.Ytoojnagdenoknaa.IL
