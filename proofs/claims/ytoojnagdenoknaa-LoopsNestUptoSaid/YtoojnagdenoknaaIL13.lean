/- The ideal logic, part 13: regions that draw their order: what holds in the text's order holds in each. Nothing here speaks of a given program. -/
import Derived.Test.YtoojnagdenoknaaIL12
set_option linter.unusedSectionVars false
set_option linter.unnecessarySimpa false
set_option linter.unusedVariables false
set_option linter.unusedSimpArgs false
namespace Go.Proofs.Ytoojnagdenoknaa.IL
open Go Go.RowKit
def ment(v:IV)(id:Id):Bool:=
 match v with
 | .pb i _ _=>decide (i=id)
 | .sb i _ _ _=>decide (i=id)
 | .mp i=>decide (i=id)
 |_=>false
def reads:Op→Bool
 | .load ..| .indexAddr ..| .slice ..| .store ..| .convert ..| .lookup ..| .mapUpdate ..=>true
 | .call {callee:= .builtin .append,..}| .call {callee:= .builtin .copy,..}=>true
 |_=>false
def Eff.makes:Eff→Bool
 | .new _| .move _ _=>true
 |_=>false
section mono
variable {P:Program} {H H':Heap}
theorem rowOf_mono{p:IV}{r:List IV×Nat}(h:rowOf H p=some r)(hg: ∀id b,H.get id=some b→ment p id=true→H'.get id=some b):rowOf H' p=some r:=by
 cases p<;>simp only[rowOf] at h ⊢ <;>try exact h
 rename_i id i o
 cases hb:H.get id with
 |none=>rw[hb] at h;cases h
 |some b=>rw[hb] at h;rw[hg id b hb (by simp[ment])];exact h
theorem iload_mono{t:TypeId}{p v:IV}(h:iload P H t p=some v)(hg: ∀id b,H.get id=some b→ment p id=true→H'.get id=some b):iload P H' t p=some v:=by
 unfold iload at h ⊢
 split at h
 ·rename_i C row o hC hr
  simp only[hC,rowOf_mono hr hg];exact h
 ·cases h
theorem kQ{E:Nat}{p:IV}{r:List (List IV)}(h:srows H E p=some r)(hg: ∀id b,H.get id=some b→ment p id=true→H'.get id=some b):srows H' E p=some r:=by
 cases p<;>simp only[srows] at h ⊢ <;>try exact h
 rename_i id i n f
 cases hb:H.get id with
 |none=>rw[hb] at h;cases h
 |some b=>rw[hb] at h;rw[hg id b hb (by simp[ment])];exact h
theorem ilook_mono{t:TypeId}{x k v:IV}{ok:Bool}(h:ilook P H t x k ok=some v)(hg: ∀id b,H.get id=some b→ment x id=true→H'.get id=some b):ilook P H' t x k ok=some v:=by
 unfold ilook at h ⊢
 have hr: ∀rows,irowsM H x=some rows→irowsM H' x=some rows:=by
  intro rows hr
  unfold irowsM at hr ⊢
  split at hr
  ·exact hr
  ·exact hr
  ·rename_i id
   rw[Option.map_eq_some_iff] at hr ⊢
   obtain⟨b,hb,e⟩:=hr
   exact⟨b,hg id b hb (by simp[ment]),e⟩
  ·cases hr
 cases e:irowsM H x with
 |none=>rw[e] at h;split at h<;>first|(rename_i h2;cases h2)|cases h
 |some rows=>rw[hr rows e];rw[e] at h;exact h
theorem imput_mono{t:TypeId}{x k v:IV}{e:Eff}(h:imput P H t x k v=some e)(hg: ∀id b,H.get id=some b→ment x id=true→H'.get id=some b):imput P H' t x k v=some e:=by
 unfold imput at h ⊢
 split at h
 ·rename_i p id hm
  cases hb:H.get id with
  |none=>rw[hb] at h;cases h
  |some b=>rw[hb] at h;rw[hg id b hb (by simp[ment])];exact h
 ·cases h
theorem iconvH_mono{s d:TypeId}{p v:IV}(h:iconvH P H s d p=some v)(hg: ∀id b,H.get id=some b→ment p id=true→H'.get id=some b):iconvH P H' s d p=some v:=by
 unfold iconvH at h ⊢
 cases hc:iconv P s d p with
 |some v'=>rw[hc] at h;exact h
 |none=>
  rw[hc] at h
  simp only at h ⊢
  cases hr:srows H 1 p with
  |some r=>rw[kQ hr hg];rw[hr] at h;exact h
  |none=>
   rw[hr] at h
   exfalso
   split at h
   ·split at h
    ·split at h
     ·split at h
      ·cases h
      ·cases h
     ·cases h
    ·cases h
   ·cases h
theorem iiaddr_mono{t:TypeId}{x ix v:IV}(h:iiaddr P H t x ix=some v)(hg: ∀id b,H.get id=some b→ment x id=true→H'.get id=some b):iiaddr P H' t x ix=some v:=by
 cases x with
 |sb id i n f=>
  cases hb:H.get id with
  |none=>
   unfold iiaddr at h
   simp only[hb] at h
   split at h
   ·split at h
    ·split at h<;>cases h
    ·split at h
     ·cases h
     ·split at h<;>cases h
    ·cases h
   ·cases h
  |some b=>
   have hb':=hg id b hb (by simp[ment])
   unfold iiaddr at h ⊢
   simp only[hb] at h
   simp only[hb']
   exact h
 |_=>exact h
theorem islice_mono{t:TypeId}{x v:IV}{lo hi mx:Option IV}(h:islice P H t x lo hi mx=some v)(hg: ∀id b,H.get id=some b→ment x id=true→H'.get id=some b):islice P H' t x lo hi mx=some v:=by
 unfold islice at h ⊢
 cases hC:tc P t with
 |none=>simp[hC] at h
 |some C=>
  simp only[hC] at h ⊢
  cases hk:C.kd<;>simp only[hk] at h ⊢ <;>try (cases h;done)
  ·cases x<;>simp only at h ⊢ <;>first|exact h|(cases h;done)
  ·rename_i e
   cases x<;>simp only at h ⊢ <;>try first|exact h|(cases h;done)
   rename_i id i n f
   split at h
   ·rename_i D l hh m b hD hb hid
    simp only[hD,hb,hg id b hid (by simp[ment])]
    exact h
   ·cases h
end mono
theorem iapp_mono{P:Program}{H H':Heap}{k:Nat}{t tx:TypeId}{s x:IV}{r:IV×Eff}(h:iapp P H k t tx s x=some r)(hg: ∀id b,H.get id=some b→(ment s id=true∨ment x id=true)→H'.get id=some b)(hn:r.2.makes=true→H'.fresh k=H.fresh k):
  iapp P H' k t tx s x=some r:=by
 unfold iapp at h ⊢
 split at h
 ·split at h
  ·split at h
   ·cases h
   ·rename_i D hD
    split at h
    ·rename_i zs new old hz hnew hold
     simp only[hD,hz,kQ hnew (fun id b hb hm=>hg id b hb (.inr hm)),kQ hold (fun id b hb hm=>hg id b hb (.inl hm))]
     split at h
     ·rename_i h0
      rw[if_pos h0];exact h
     ·rename_i h0
      rw[if_neg h0]
      split at h
      ·rename_i h1
       rw[if_pos h1]
       split at h
       all_goals first
        |(cases h;done)
        |(cases h;rw[hn rfl])
      ·cases h
    ·cases h
  ·cases h
 ·cases h
theorem icopy_mono{P:Program}{H H':Heap}{t tx:TypeId}{d x:IV}{r:IV×Eff}(h:icopy P H t tx d x=some r)(hg: ∀id b,H.get id=some b→(ment d id=true∨ment x id=true)→H'.get id=some b):
  icopy P H' t tx d x=some r:=by
 unfold icopy at h ⊢
 split at h
 ·split at h
  ·split at h
   ·cases h
   ·rename_i D hD
    split at h
    ·rename_i src dst hs hd
     simp only[hD,kQ hs (fun id b hb hm=>hg id b hb (.inr hm)),kQ hd (fun id b hb hm=>hg id b hb (.inl hm))]
     simp only at h
     split at h
     ·rename_i h0
      rw[if_pos h0];exact h
     ·rename_i h0
      rw[if_neg h0]
      cases d with
      |sb id i n f=>
       simp only at h ⊢
       cases hb:H.get id with
       |none=>rw[hb] at h;cases h
       |some b=>rw[hb] at h;rw[hg id b hb (by simp[ment])];exact h
      |_=>exact h
    ·cases h
  ·cases h
 ·cases h
theorem istore_mono{P:Program}{H H':Heap}{t:TypeId}{p v:IV}{e:Eff}(h:istore P H t p v=some e)(hg: ∀id b,H.get id=some b→ment p id=true→H'.get id=some b):istore P H' t p v=some e:=by
 unfold istore at h ⊢
 split at h
 ·rename_i C id i o cs hC hcs
  cases hb:H.get id with
  |none=>simp only[hb] at h;cases h
  |some b=>
   simp only[hC,hcs,hb] at h ⊢
   simp only[hg id b hb (by simp[ment])]
   exact h
 ·cases h
theorem iop_local{P:Program}{o:Oper}{a a':Fr}{H H':Heap}{r:IV×Eff}(h:iop P o a H=some r)(hev: ∀x∈o.op.operands.toList,a'.ev x=a.ev x)
  (hg: ∀id b,H.get id=some b→reads o.op=true→(∃x∈o.op.operands.toList,ment (a.ev x) id=true)→H'.get id=some b) (hb:a'.b=a.b) (hn:r.2.makes=true→H'.fresh (a.b+o.dst.getD 0)=H.fresh (a.b+o.dst.getD 0)):iop P o a' H'=some r:=by
 obtain⟨dst,op,type,pos,after,guard⟩:=o
 cases op<;>simp only[iop,hb] at h ⊢ <;>simp only[Op.operands] at hev hg<;>try (cases h;done)
 case move x=>rw[hev x (by simp)];exact h
 case assign x=>rw[hev x (by simp)];exact h
 case pick c x y=>rw[hev c (by simp),hev x (by simp),hev y (by simp)];exact h
 case alloc t=>
  split at h
  ·rename_i C hC
   split at h
   ·rename_i zs hz
    cases h
    try simp only[hC,hz]
    rw[hn rfl]
   ·cases h
  ·cases h
 case box t x=>
  rw[hev x (by simp)]
  split at h
  ·rename_i cs hcs
   cases h
   try simp only[hcs]
   rw[hn rfl]
  ·cases h
 case build t ps=>
  rw[List.map_congr_left (g:=fun p=>(p.1,a.ev p.2)) (fun p hp=>by rw[hev p.2 (by simp;exact⟨p.1,by simpa using hp⟩)])]
  exact h
 case buildSlice t n ps=>
  rw[List.map_congr_left (g:=fun p=>(p.1,a.ev p.2)) (fun p hp=>by rw[hev p.2 (by simp;exact⟨p.1,by simpa using hp⟩)])]
  simp only[Option.map_eq_some_iff] at h ⊢
  obtain⟨b,hb,he⟩:=h
  subst he
  exact⟨b,hb,by rw[hn rfl]⟩
 case load t x=>
  rw[hev x (by simp)]
  simp only[Option.map_eq_some_iff] at h ⊢
  obtain⟨v,hv,he⟩:=h
  exact⟨v,iload_mono hv (fun id b hb hm=>hg id b hb rfl ⟨x,by simp,hm⟩),he⟩
 case store t x y=>
  rw[hev x (by simp),hev y (by simp)]
  simp only[Option.map_eq_some_iff] at h ⊢
  obtain⟨v,hv,he⟩:=h
  exact⟨v,istore_mono hv (fun id b hb hm=>hg id b hb rfl ⟨x,by simp,hm⟩),he⟩
 case makeMap t r=>
  cases r with
  |some r=>cases h
  |none=>
   simp only[Option.some.injEq] at h ⊢
   subst h
   rw[hn rfl]
 case lookup t x i ok=>
  rw[hev x (by simp),hev i (by simp)]
  simp only[Option.map_eq_some_iff] at h ⊢
  obtain⟨v,hv,he⟩:=h
  exact⟨v,ilook_mono hv (fun id b hb hm=>hg id b hb rfl ⟨x,by simp,hm⟩),he⟩
 case mapUpdate t m x y=>
  rw[hev m (by simp),hev x (by simp),hev y (by simp)]
  simp only[Option.map_eq_some_iff] at h ⊢
  obtain⟨v,hv,he⟩:=h
  exact⟨v,imput_mono hv (fun id b hb hm=>hg id b hb rfl ⟨m,by simp,hm⟩),he⟩
 case nilCheck x=>rw[hev x (by simp)];exact h
 case binOp op t x y ty=>rw[hev x (by simp),hev y (by simp)];exact h
 case unOp op t x=>rw[hev x (by simp)];exact h
 case convert s d x=>
  rw[hev x (by simp)]
  simp only[Option.map_eq_some_iff] at h ⊢
  obtain⟨v,hv,he⟩:=h
  exact⟨v,iconvH_mono hv (fun id b hb hm=>hg id b hb rfl ⟨x,by simp,hm⟩),he⟩
 case makeInterface t x=>rw[hev x (by simp)];exact h
 case makeFunc fn f c=>
  rw[List.map_congr_left (fun x hx=>hev x (by simp;exact .inl (by simpa using hx))),List.map_congr_left (fun x hx=>hev x (by simp;exact .inr (by simpa using hx)))]
  exact h
 case makeSlice t l c=>
  rw[hev l (by simp),hev c (by simp)]
  simp only[Option.map_eq_some_iff] at h ⊢
  obtain⟨b,hb,he⟩:=h
  subst he
  exact⟨b,hb,by rw[hn rfl]⟩
 case slice t x lo hi mx=>
  have e1:lo.map a'.ev=lo.map a.ev:=by cases lo with|none=>rfl|some y=>simp[hev y (by simp)]
  have e2:hi.map a'.ev=hi.map a.ev:=by cases hi with|none=>rfl|some y=>simp[hev y (by simp)]
  have e3:mx.map a'.ev=mx.map a.ev:=by cases mx with|none=>rfl|some y=>simp[hev y (by simp)]
  rw[hev x (by simp),e1,e2,e3]
  simp only[Option.map_eq_some_iff] at h ⊢
  obtain⟨v,hv,he⟩:=h
  exact⟨v,islice_mono hv (fun id b hb hm=>hg id b hb rfl ⟨x,by simp,hm⟩),he⟩
 case fieldAddr t x f=>rw[hev x (by simp)];exact h
 case indexAddr t x i=>
  rw[hev x (by simp),hev i (by simp)]
  simp only[Option.map_eq_some_iff] at h ⊢
  obtain⟨v,hv,he⟩:=h
  exact⟨v,iiaddr_mono hv (fun id b hb hm=>hg id b hb rfl ⟨x,by simp,hm⟩),he⟩
 case index t x i=>rw[hev x (by simp),hev i (by simp)];exact h
 case extract x n=>rw[hev x (by simp)];exact h
 case call c=>
  obtain⟨callee,args,argTypes⟩:=c
  cases callee<;>simp only at h ⊢ <;>try (cases h;done)
  rename_i b
  have ha:args.toList.map a'.ev=args.toList.map a.ev:=List.map_congr_left fun x hx=>hev x (by simp[Call.operands];simpa using hx)
  rw[ha]
  unfold ibuiltin at h ⊢
  split at h
  ·exact h
  ·rename_i t tx s x hts has
   have hs: ∀id,(ment s id=true∨ment x id=true)→ ∃y∈(Call.operands ⟨.builtin .append,args,argTypes⟩).toList,ment (a.ev y) id=true:=by
    intro id hm
    have hmem: ∀z,z∈[s,x]→ ∃y∈args.toList,a.ev y=z:=by
     intro z hz
     rw[←has] at hz
     simpa using hz
    rcases hm with hm|hm
    ·obtain⟨y,hy,he⟩:=hmem s (by simp)
     exact⟨y,by simp[Call.operands];simpa using hy,by rw[he];exact hm⟩
    ·obtain⟨y,hy,he⟩:=hmem x (by simp)
     exact⟨y,by simp[Call.operands];simpa using hy,by rw[he];exact hm⟩
   exact iapp_mono h (fun id b hb hm=>hg id b hb rfl (hs id hm)) hn
  ·rename_i t tx s x hts has
   have hs: ∀id,(ment s id=true∨ment x id=true)→ ∃y∈(Call.operands ⟨.builtin .copy,args,argTypes⟩).toList,ment (a.ev y) id=true:=by
    intro id hm
    have hmem: ∀z,z∈[s,x]→ ∃y∈args.toList,a.ev y=z:=by
     intro z hz
     rw[←has] at hz
     simpa using hz
    rcases hm with hm|hm
    ·obtain⟨y,hy,he⟩:=hmem s (by simp)
     exact⟨y,by simp[Call.operands];simpa using hy,by rw[he];exact hm⟩
    ·obtain⟨y,hy,he⟩:=hmem x (by simp)
     exact⟨y,by simp[Call.operands];simpa using hy,by rw[he];exact hm⟩
   exact icopy_mono h (fun id b hb hm=>hg id b hb rfl (hs id hm))
  ·exact h
  ·exact h
  ·cases h
end Go.Proofs.Ytoojnagdenoknaa.IL
