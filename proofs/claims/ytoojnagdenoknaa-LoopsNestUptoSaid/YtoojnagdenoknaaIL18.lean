/- The ideal logic, part 18: what lives may be lent to a call that only reads; what is done becomes immutable at a loop's ends. Nothing here speaks of a given program. -/
import Derived.Test.YtoojnagdenoknaaIL17
set_option linter.unusedSectionVars false
set_option linter.unnecessarySimpa false
set_option linter.unusedVariables false
set_option linter.unusedSimpArgs false
namespace Go.Proofs.Ytoojnagdenoknaa.IL
open Go Go.RowKit
def flatv(v:IV):Prop:= ∀J S u,VR J S v u→VR (fun _=>none) (fun _ _=>False) v u
theorem yH(b:Bool):flatv (.bool b):=fun J S u h=>by cases h;exact .bool b
theorem ye(k:IntKind)(n:Int):flatv (.int k n):=fun J S u h=>by cases h;exact .int k n
inductive Fzs (H:Heap):List IV→List IV→Prop
 |nil:Fzs H [] []
 |cons {v r:IV} {vs rs:List IV} (h:Fz H v r) (k:Fzs H vs rs):Fzs H (v::vs) (r::rs)
theorem Fzs.sound{H:Heap}{J:Inj}{S:Sure}{w:World}(hH:RelH J S H w){vs rs:List IV}(h:Fzs H vs rs):vs.length=rs.length∧ ∀(k:Nat) (v r:IV) (u:Value),vs[k]?=some v→rs[k]?=some r→VR J S v u→VR (fun _=>none) (allSure J S H w) r u:=by
 induction h with
 |nil=>exact⟨rfl,fun k v r u h=>by simp at h⟩
 |cons h k ih=>
  refine⟨by simp[ih.1],fun k v r u h1 h2 h3=>?_⟩
  cases k with
  |zero=>simp at h1 h2;subst h1;subst h2;exact h.sound hH u h3
  |succ k=>exact ih.2 k v r u (by simpa using h1) (by simpa using h2) h3
theorem PCall.lend{P:Program}{f:FuncId}{args args':List IV}{K:IV→Prop}{H:Heap}(h:PCall P f args' K)(hz:Fzs H args args')(hf: ∀v,K v→flatv v):CallW P f args H fun v H'=>K v∧H'=H:=by
 obtain⟨hc,hcl,h⟩:=h
 refine⟨hc,fun J S w us hG hH ha=>?_⟩
 obtain⟨z1,z2⟩:=hz.sound hH
 have ha':VRs (fun _=>none) (allSure J S H w) args' us:=⟨by rw[←z1];exact ha.1,fun k r u hr hu=>by
  have hk:k<args.length:=by rw[z1];exact(List.getElem?_eq_some_iff.1 hr).1
  exact z2 k args[k] r u (by simp[hk]) hr (ha.2 k _ u (by simp[hk]) hu)⟩
 refine(h (allSure J S H w) w us (hG.mono fun a v h=> .inl h) (fun a v hs=>by
  rcases hs with hs|hs
  ·exact(hH.sure a v hs).1
  ·exact hs.1) ha').mono ?_
 rintro e w' ⟨S',u,v,he,hK,hv,hs,hE⟩
 obtain⟨r1,r2⟩:=fresh_rel (S':=S) hH (fun a v hav=>hs a v (hE.hS a v (.inl hav))) (fun _ _ h=>h) (fun a v h=> .inl h) (fun k hk=>hE.keep k hk yR) hE.size hE.os hE.tape hE.output
 exact⟨J,S,u,v,H,he,⟨hK,rfl⟩,(hf v hK _ _ u hv).mono (fun _ _ h=>by cases h) (fun _ _ h=>h.elim),r1,r2⟩
theorem callL{P:Program}{f:FuncId}{args args':List IV}{v:IV}{H:Heap}{K:IV→Heap→Prop}(h:Pure1 P f args' v)(hz:Fzs H args args')(hf:flatv v)(k:K v H):CallW P f args H K:=
 (PCall.lend h hz (fun x e=>by subst e;exact hf)).mono fun x H' ⟨e,e'⟩=>by subst e;subst e';exact k
theorem Sees.refl{a:Fr}{H:Heap}:Sees a H a H:=fun J S ra w hF hH=>⟨S,hF,hH,.refl⟩
theorem Sees.trans{a1 a2 a3:Fr}{H1 H2 H3:Heap}(h:Sees a1 H1 a2 H2)(k:Sees a2 H2 a3 H3):Sees a1 H1 a3 H3:=by
 intro J S ra w hF hH
 obtain⟨S2,f2,h2,e2⟩:=h J S ra w hF hH
 obtain⟨S3,f3,h3,e3⟩:=k J S2 ra w f2 h2
 exact⟨S3,f3,h3,e2.trans e3⟩
def SeesK(a:Fr)(H:Heap)(K:Fr→Heap→Prop):Prop:= ∃a2 H2,Sees a H a2 H2∧K a2 H2
theorem SeesK_congr{a:Fr}{H:Heap}{K:Fr→Heap→Prop}{p0:Prop}(hx:(True∧True)=p0):SeesK a H K=SeesK a H K:=rfl
attribute [congr] SeesK_congr
theorem SeesK.self{a:Fr}{H:Heap}{K:Fr→Heap→Prop}(h:K a H):SeesK a H K:=⟨a,H,.refl,h⟩
def Sl(d:Nat)(H:Heap)(v:IV)(E:Nat)(rows:List (List IV)):Prop:=
 (v= .nils∧rows=[])∨ ∃g full,v= .sb ⟨d,g⟩ 0 rows.length full∧H.get ⟨d,g⟩=some ⟨E,rows⟩
theorem Sl_nil{d:Nat}{H:Heap}{E:Nat}:Sl d H .nils E []:= .inl ⟨rfl,rfl⟩
theorem Sl.frame{d:Nat}{H H':Heap}{v:IV}{E:Nat}{rows:List (List IV)}(h:Sl d H v E rows)(k: ∀g,H'.get ⟨d,g⟩=H.get ⟨d,g⟩):Sl d H' v E rows:=by
 rcases h with h|⟨g,full,h1,h2⟩
 ·exact .inl h
 ·exact .inr ⟨g,full,h1,by rw[k];exact h2⟩
theorem Sl.rd{d:Nat}{H:Heap}{v:IV}{E:Nat}{rows:List (List IV)}(h:Sl d H v E rows):srows H E v=some rows:=by
 rcases h with ⟨rfl,rfl⟩|⟨g,full,rfl,h2⟩
 ·rfl
 ·simp[srows,h2]
theorem Sl.fz{d:Nat}{H:Heap}{v:IV}{E:Nat}{rows:List (List IV)}(h:Sl d H v E rows)(hc: ∀r∈rows,∀x∈r,closed x):Fz H v (.sim rows false):=by
 rcases h with ⟨rfl,rfl⟩|⟨g,full,rfl,h2⟩
 ·exact .nils
 ·exact Fz_sb h2 (by simp) (by simp) hc
structure Grown (d:Nat) (H H':Heap):Prop where
 get: ∀id,id.k≠d→H'.get id=H.get id
 next: ∀k,k≠d→H'.next k=H.next k
 up: ∀k,H.next k≤H'.next k
theorem Grown.refl{d:Nat}{H:Heap}:Grown d H H:=⟨fun _ _=>rfl,fun _ _=>rfl,fun _=>Nat.le_refl _⟩
def Heap.less(H H1:Heap):Heap:={get:=fun id=>match H1.get id with|some _=>none|none=>H.get id,next:=H.next,loop:=H.loop}
def Sub(v r:IV):Prop:= ∀J S u,VR J S v u→VR J S r u
theorem Sub.refl{v:IV}:Sub v v:=fun _ _ _ h=>h
theorem sub_nils{full:Bool}:Sub .nils (.sim [] full):=fun J S u h=>by cases h;exact .simnil
def SubRow(r r':List IV):Prop:=r.length=r'.length∧ ∀(c:Nat) (v v':IV),r[c]?=some v→r'[c]?=some v'→Sub v v'
def SubRows(rows rows':List (List IV)):Prop:=rows.length=rows'.length∧ ∀(i:Nat) (row row':List IV),rows[i]?=some row→rows'[i]?=some row'→SubRow row row'
theorem SubRow.refl{r:List IV}:SubRow r r:=⟨rfl,fun c v v' h h'=>by rw[h] at h';cases h';exact .refl⟩
theorem SubRows.refl{r:List (List IV)}:SubRows r r:=⟨rfl,fun c v v' h h'=>by rw[h] at h';cases h';exact .refl⟩
theorem SubRows.snoc{rows rows':List (List IV)}{r r':List IV}(h:SubRows rows rows')(k:SubRow r r'):SubRows (rows++[r]) (rows'++[r']):=by
 refine⟨by simp[h.1],fun i row row' h1 h2=>?_⟩
 by_cases hi:i<rows.length
 ·rw[List.getElem?_append_left hi] at h1
  rw[List.getElem?_append_left (by rw[←h.1];exact hi)] at h2
  exact h.2 i row row' h1 h2
 ·rw[List.getElem?_append_right (by omega)] at h1
  rw[List.getElem?_append_right (by rw[←h.1];omega)] at h2
  rw[←h.1] at h2
  cases hj:i-rows.length with
  |zero=>rw[hj] at h1 h2;simp at h1 h2;subst h1;subst h2;exact k
  |succ n=>rw[hj] at h1;simp at h1
theorem sees_rows{a:Fr}{H:Heap}{id:Id}{b:Blk}{rows':List (List IV)}(hb:H.get id=some b)(hs:SubRows b.rows rows'):Sees a H a (H.put id ⟨b.E,rows'⟩):=by
 intro J S ra w hF hH
 obtain⟨L0,hL0,hat0⟩:=hH.blk id b hb
 have hget: ∀id2 b2,(H.put id ⟨b.E,rows'⟩).get id2=some b2→ ∃b0,H.get id2=some b0:=by
  intro id2 b2 h2
  simp only[ke] at h2
  split at h2
  ·rename_i e;subst e;exact⟨b,hb⟩
  ·exact⟨b2,h2⟩
 refine⟨S,hF,⟨fun id2 b2 h2=>?_,fun id1 id2 L1 L2 h1 h2 hL1 hL2 hr=>hH.inj id1 id2 L1 L2 ((yM hb id1).1 h1) ((yM hb id2).1 h2) hL1 hL2 hr,fun x y h=>⟨(hH.sure x y h).1,?_⟩,hH.next,hH.lps⟩,⟨fun _ _ h=>h,fun _ _ h=>h,fun _ _ h=> .inl h,?_,fun _ _ _=>rfl,Nat.le_refl _,rfl,rfl,rfl,fun _=>Nat.le_refl _,fun _ r h=>⟨r,h⟩⟩⟩
 ·simp only[ke] at h2
  split at h2
  ·rename_i e;subst e;cases h2
   refine⟨L0,hL0,⟨fun rg=>?_,fun rg=>?_⟩⟩
   rotate_left
   ·exact(hat0.mp rg).sub hs.1.symm fun i r r' hi hi'=>⟨(hs.2 i r r' hi hi').1.symm,fun o v v' u ho ho' hv=>(hs.2 i r r' hi hi').2 o v v' ho ho' J S u hv⟩
   replace hat0:=hat0.reg rg
   obtain⟨cs,t,c1,c2,c3⟩:=hat0.cell
   refine⟨hat0.E,⟨cs,t,c1,c2,fun i row' o v' hi ho=>?_⟩,fun i row' hi=>?_,?_⟩
   ·simp only at hi
    have hlt:i<b.rows.length:=by rw[hs.1];exact(List.getElem?_eq_some_iff.1 hi).1
    have hr:=hs.2 i b.rows[i] row' (by simp[hlt]) hi
    have ho':o<b.rows[i].length:=by rw[hr.1];exact(List.getElem?_eq_some_iff.1 ho).1
    obtain⟨u,hu,hv⟩:=c3 i b.rows[i] o b.rows[i][o] (by simp[hlt]) (by simp[ho'])
    exact⟨u,hu,hr.2 o _ v' (by simp[ho']) ho J S u hv⟩
   ·simp only at hi
    have hlt:i<b.rows.length:=by rw[hs.1];exact(List.getElem?_eq_some_iff.1 hi).1
    have hr:=hs.2 i b.rows[i] row' (by simp[hlt]) hi
    rw[←hr.1]
    exact hat0.row i _ (by simp[hlt])
   ·simp only
    rw[←hs.1]
    exact hat0.fit
  ·exact hH.blk id2 b2 h2
 ·rintro⟨id2,L2,h2,hL2,hr⟩
  exact(hH.sure x y h).2 ⟨id2,L2,(yM hb id2).1 h2,hL2,hr⟩
 ·rintro k ⟨id2,L2,h2,hL2,hr⟩
  exact .inl ⟨id2,L2,(yM hb id2).1 h2,hL2,hr⟩
theorem Sl.sub{a:Fr}{d:Nat}{H:Heap}{v:IV}{E:Nat}{rows rows':List (List IV)}(h:Sl d H v E rows)(hs:SubRows rows rows'): ∃H2,Sees a H a H2∧Sl d H2 v E rows'∧(∀id,id.k≠d→H2.get id=H.get id)∧H2.next=H.next:=by
 rcases h with ⟨rfl,rfl⟩|⟨g,full,rfl,hb⟩
 ·have:rows'=[]:=by simpa [eq_comm] using hs.1
  subst this
  exact⟨H,.refl,Sl_nil,fun _ _=>rfl,rfl⟩
 ·refine⟨_,sees_rows hb hs,.inr ⟨g,full,by rw[hs.1],by simp⟩,fun id hid=>?_,rfl⟩
  have e: ¬id=⟨d,g⟩:=by intro e;subst e;exact hid rfl
  simp[e]
end Go.Proofs.Ytoojnagdenoknaa.IL
