/- The pure layer, part 1: blocks that are named anew; calls that write. Nothing here speaks of a given program. -/
import Derived.Test.YtoojnagdenoknaaPL0
set_option linter.unusedSectionVars false
set_option linter.unnecessarySimpa false
set_option linter.unusedVariables false
set_option linter.unusedSimpArgs false
namespace Go.Proofs.Ytoojnagdenoknaa.IL
open Go Go.RowKit PL
def RV(id id':Id)(v v':IV):Prop:=v=v'∨(∃i n f,v= .sb id i n f∧v'= .sb id' i n f)∨ ∃i o,v= .pb id i o∧v'= .pb id' i o
theorem RV.rel{id id':Id}{J J':Inj}{S:Sure}{v v':IV}{u:Value}(h:RV id id' v v')(hJ: ∀j L,J j=some L→J' j=some L)(hr: ∀L,J id=some L→J' id'=some L)(hv:VR J S v u):VR J' S v' u:=by
 rcases h with rfl|⟨i,n,f,rfl,rfl⟩|⟨i,o,rfl,rfl⟩
 ·exact hv.mono hJ fun _ _ h=>h
 ·cases hv with
  |sb h hc hz hf hm=>exact .sb (hr _ h) hc hz hf
 ·cases hv with
  |pb h hm=>exact .pb (hr _ h)
def RB(id id':Id)(c0 c:Blk):Prop:=c.E=c0.E∧c.rows.length=c0.rows.length∧
 ∀(i:Nat) (r0 r:List IV),c0.rows[i]?=some r0→c.rows[i]?=some r→r.length=r0.length∧ ∀(o:Nat) (v0 v:IV),r0[o]?=some v0→r[o]?=some v→RV id id' v0 v
theorem RB.refl{id id':Id}{c:Blk}:RB id id' c c:=⟨rfl,rfl,fun i r0 r h h'=>by rw[h] at h';cases h';exact⟨rfl,fun o v0 v h h'=>by rw[h] at h';cases h';exact .inl rfl⟩⟩
theorem U_sub{P:Program}{code:Code}{Q:Exit→Fr→Heap→Prop}{a:Fr}{H:Heap}{v v':IV}(t:Nat)(ht:a.get t=v)(hs:Sub v v')(h:W P code Q (a.put t v') H):W P code Q a H:=by
 intro B ro J S ra w hF hH hO
 refine h B ro J S ra w ⟨hF.glob,by simpa using hF.size,fun s=>?_⟩ hH hO
 simp only[zzL]
 split
 ·rename_i e;subst e;exact hs _ _ _ (ht▸hF.val s)
 ·exact hF.val s
theorem sub_sime:Sub .sime (.sim [] false):=fun J S u h=>by
 cases h
 exact .sim (rows:=[]) (E:=0) (f:=fun _ _=> .nilFunc) (fun _ _ h=>by cases h) (fun _ _ _ _ h=>by cases h) (fun _ _ _ _ h=>by cases h) (Nat.zero_le _) (fun h=>by cases h)
theorem U_nil{P:Program}{code:Code}{Q:Exit→Fr→Heap→Prop}{a:Fr}{H:Heap}{full:Bool}(t:Nat)(ht:a.get t= .sim [] full)(h1:W P code Q (a.put t .nils) H)(h2:W P code Q (a.put t .sime) H):W P code Q a H:=by
 intro B ro J S ra w hF hH hO
 have hv:=hF.val t
 rw[ht] at hv
 have key: ∀v,VR J S v (ra.tmps.getD t undef)→RelF J S (a.put t v) ra:=fun v hv=>⟨hF.glob,by simpa using hF.size,fun s=>by
  simp only[zzL]
  split
  ·rename_i e;subst e;exact hv
  ·exact hF.val s⟩
 generalize hu:ra.tmps.getD t undef=u at hv key
 cases hv with
 |sim=>exact h2 B ro J S ra w (key _ .sime) hH hO
 |simnil=>exact h1 B ro J S ra w (key _ .nils) hH hO
theorem nil_nil{P:Program}{t e:TypeId}{C:TC}{c:Bool}(ht:tc P t=some C)(hk:C.kd= .slice e):ibin P .eql t .nils .nils c=some (.bool true):=by simp[ibin,ieqO,ht,hk]
theorem nil_sime{P:Program}{t e:TypeId}{C:TC}{c:Bool}(ht:tc P t=some C)(hk:C.kd= .slice e):ibin P .eql t .sime .nils c=some (.bool false):=by simp[ibin,ieqO,ht,hk]
theorem nil_cons{P:Program}{t e:TypeId}{C:TC}{c fl:Bool}{α:Type}{f:α→List IV}{s:List α}(ht:tc P t=some C)(hk:C.kd= .slice e)(hs:s≠[]):ibin P .eql t (.sim (s.map f) fl) .nils c=some (.bool false):=by
 cases s with
 |nil=>exact absurd rfl hs
 |cons y ys=>simp[ibin,ieqO,ht,hk]
end Go.Proofs.Ytoojnagdenoknaa.IL
