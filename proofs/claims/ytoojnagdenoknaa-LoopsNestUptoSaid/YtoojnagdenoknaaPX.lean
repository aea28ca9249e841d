/- The pure layer: what the printed walks use. Nothing here speaks of a given program, but for its types. -/
import Derived.Test.YtoojnagdenoknaaPS
import Derived.Test.YtoojnagdenoknaaPE
import Derived.Test.YtoojnagdenoknaaPL1
set_option linter.unusedSectionVars false
set_option linter.unnecessarySimpa false
set_option linter.unusedVariables false
set_option linter.unusedSimpArgs false
set_option linter.defProp false
namespace Go.Proofs.Ytoojnagdenoknaa.IL
open Go Go.RowKit PL
open Option.some renaming inj → sI
theorem srows_sim{H:Heap}{E:Nat}{α:Type}{f:α→List IV}{xs:List α}{b:Bool}(h: ∀x,(f x).length=E):srows H E (.sim (xs.map f) b)=some (xs.map f):=by
  show(if ∀r∈xs.map f,r.length=E then some (xs.map f) else none)=some (xs.map f)
  rw[if_pos]
  intro r hr
  obtain⟨x,_,rfl⟩:=List.mem_map.1 hr
  exact h x
theorem app_facts{α:Type}{xs ys l:List α}(h:PL.app xs ys=some l):l=xs++ys∧xs.length+ys.length≤4294967296:=by
  unfold PL.app at h
  split at h
  · rename_i c;exact⟨(sI h).symm,c⟩
  · cases h
theorem set_facts{α:Type}{xs l:List α}{j:Int}{y:α}(h:setI xs j y=some l):l=xs.set j.toNat y:=by
  unfold setI at h
  split at h
  · exact(sI h).symm
  · cases h
theorem zx{σ ρ τ:Type}{s:σ}{k:σ→Option τ}{q:ρ→Option τ}{b:τ}(h:outE (.n s) k q=some b):k s=some b:=h
theorem zzd{σ ρ τ:Type}{v:ρ}{k:σ→Option τ}{q:ρ→Option τ}{b:τ}(h:outE (.r v) k q=some b):q v=some b:=h
theorem kK{α:Type}{xs l:List α}{lo hi:Int}(h:sli xs lo hi=some l):0≤lo∧lo≤hi∧hi≤(xs.length:Int)∧l=(xs.drop lo.toNat).take (hi.toNat-lo.toNat):=by
  unfold sli at h
  split at h
  · rename_i c;exact⟨c.1,c.2.1,c.2.2,(sI h).symm⟩
  · cases h
theorem bnd0{hi:Int}{n:Nat}(h1:0≤hi)(h2:hi≤(n:Int)):ibnd none (some (.int .i64 hi)) none n=some ((0:Int).toNat,hi.toNat,none):=by
  simp only[ibnd,bnd]
  rw[if_pos ⟨h1,h2⟩]
  rfl
theorem bndT{lo:Int}{n:Nat}(h0:0≤lo)(h1:lo≤(n:Int)):ibnd (some (.int .i64 lo)) none none n=some (lo.toNat,((n:Int)).toNat,none):=by
  simp only[ibnd,bnd]
  rw[if_pos ⟨h0,h1⟩]
  rfl
section slices
variable {α:Type} {xs l:List α} {lo hi:Int} {s r:ByteArray}
theorem bnds0(ks:sli xs 0 hi=some l):ibnd none (some (.int .i64 hi)) none xs.length=some ((0:Int).toNat,hi.toNat,none):=bnd0 (kK ks).2.1 (kK ks).2.2.1
theorem bndsE(ks:sli xs lo (xs.length:Int)=some l):ibnd (some (.int .i64 lo)) none none xs.length=some (lo.toNat,((xs.length:Int)).toNat,none):=bndT (kK ks).1 (kK ks).2.1
theorem slice_simB{P:Program}{t e:TypeId}{C A:TC}{f:α→List IV}{L U:Option IV}(ht:tc P t=some C)(hk:C.kd= .slice e)(he:tc P e=some A)(hE: ∀x,(f x).length=A.size)
    (hb:ibnd L U none xs.length=some (lo.toNat,hi.toNat,none)) (ks:sli xs lo hi=some l) (H:Heap):islice P H t (.sim (xs.map f) false) L U none=some (.sim (l.map f) false):=by
  simp only[islice,ht,hk,he,List.length_map,hb]
  rw[if_pos]
  · rw[(kK ks).2.2.2,List.map_take,List.map_drop];rfl
  · intro r hr
    obtain⟨x,_,rfl⟩:=List.mem_map.1 hr
    exact hE x
def slice_simE{P:Program}{t e:TypeId}{C A:TC}{f:α→List IV}(ht:tc P t=some C)(hk:C.kd= .slice e)(he:tc P e=some A)(hE: ∀x,(f x).length=A.size)(ks:sli xs lo (xs.length:Int)=some l)(H:Heap):=slice_simB (P:=P) ht hk he hE (bndsE ks) ks H
end slices
theorem zn{P:Program}{t e:TypeId}{C:TC}{c:Bool}(ht:tc P t=some C)(hk:C.kd= .pointer e):(∀r i o,ibin P .eql t (.pim r i o) .nilp c=some (.bool false))∧(∀r i o,ibin P .neq t (.pim r i o) .nilp c=some (.bool true))∧
    (∀r i o,ibin P .eql t (.pb r i o) .nilp c=some (.bool false))∧(∀r i o,ibin P .neq t (.pb r i o) .nilp c=some (.bool true)):=by
  refine⟨fun r i o=>?_,fun r i o=>?_,fun r i o=>?_,fun r i o=>?_⟩<;>simp[ibin,ieqO,ht,hk]
theorem yj{cs xs:List IV}(h:cs.length=xs.length):splice cs 0 xs=xs:=splice_all cs xs h
theorem putO_some(a:Fr)(d:Nat)(v:IV):a.putO (some d) v=a.put d v:=rfl
theorem iia_arr{P:Program}{t e n m:Nat}{C A:TC}{j:Int}(ht:tc P t=some C)(hk:C.kd= .array n e)(he:tc P e=some A)(hj:0≤j∧j<n)(hm:j.toNat*A.size=m):
    (∀H k id i o,iiaddr P H t (.pb id i o) (.int k j)=some (.pb id i (o+m)))∧ ∀H k r i o,iiaddr P H t (.pim r i o) (.int k j)=some (.pim r i (o+m)):=by
  constructor<;>intros<;>simp only[iiaddr,ht,hk,he,hm]<;>rw[if_pos hj]
theorem zzM{P:Program}{t e n m:Nat}{C A:TC}{k:IntKind}{j jn:Int}{cs:List IV}(hjn:j=jn)(ht:tc P t=some C)(hk:C.kd= .array n e)(he:tc P e=some A)(hj:0≤jn∧jn<n)(hm:jn.toNat*A.size=m):
    iindex P t (.agg cs) (.int k j)=ipart A.agg A.size m cs:=by
  subst hjn
  simp only[iindex,ht,hk,he]
  rw[if_pos hj,hm]
theorem Own.cf{D:List Nat}{H:Heap}{v:IV}{E:Nat}{rows:List (List IV)}(h:Own D H v E rows):v.cells=some [v]∧v.one=true:=by
  rcases h with ⟨rfl,rfl⟩|⟨id,i,full,b,h1,rfl,h3,h4⟩<;>exact⟨rfl,rfl⟩
theorem opt_none{α β:Type}(f:α→β):Option.map f none=none:=rfl
def S4:=And.intro @yz (And.intro @kB (And.intro @Kp_hi (And.intro @Kp_in (And.intro @KH_new (And.intro @KH_put (And.intro @KH_del (And.intro @Same_new (And.intro @Same_put (And.intro @Same_del (And.intro @putO_some @opt_none))))))))))
end Go.Proofs.Ytoojnagdenoknaa.IL
