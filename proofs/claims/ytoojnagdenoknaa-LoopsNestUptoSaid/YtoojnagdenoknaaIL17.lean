/- The ideal logic, part 17: small words for proofs of contracts. Nothing here speaks of a given program. -/
import Derived.Test.YtoojnagdenoknaaIL16
import Derived.Laws.StructEq
set_option linter.unusedSectionVars false
set_option linter.unnecessarySimpa false
set_option linter.unusedVariables false
set_option linter.unusedSimpArgs false
namespace Go.Proofs.Ytoojnagdenoknaa.IL
open Go Go.RowKit
theorem PCall.mono{P:Program}{f:FuncId}{args:List IV}{K K':IV→Prop}(h:PCall P f args K)(hk: ∀v,K v→K' v):PCall P f args K':=
 ⟨h.1,h.2.1,fun S w us hG hs ha=>(h.2.2 S w us hG hs ha).mono fun e w' ⟨S',u,v,he,hK,r⟩=>⟨S',u,v,he,hk _ hK,r⟩⟩
theorem callP{P:Program}{m:Mo}{f:FuncId}{args:List IV}{v:IV}{H:Heap}{K:IV→Heap→Prop}(h:Pure1 P f args v)(k:K v H):callM P m f args H K:=by
 cases m with
 |none=>exact(h.at H).mono fun x H' ⟨e,e'⟩=>by subst e;subst e';exact k
 |some _=>exact⟨v,h,k⟩
theorem Pure1_fz{P:Program}{f:FuncId}{args:List IV}{v:IV}(hcl: ∀v∈args,closed v)(h:CallW P f args (.nil fun _=>0) fun r H'=>Fz H' r v):Pure1 P f args v:=
 PCall_intro hcl (h.mono fun r H' e=>⟨v,e,rfl⟩)
theorem zU: ∀v∈([]:List IV),closed v:=by intro v hv;cases hv
theorem zQ{x:IV}{l:List IV}(h:closed x)(k: ∀v∈l,closed v): ∀v∈x::l,closed v:=by
 intro v hv
 rcases List.mem_cons.1 hv with rfl|hv
 ·exact h
 ·exact k v hv
theorem Fz_sb{H:Heap}{id:Id}{b:Blk}{i n:Nat}{full:Bool}{rows:List (List IV)}(hb:H.get id=some b)(hrows:(b.rows.drop i).take n=rows)(hn:i+n≤b.rows.length)(hcl: ∀r∈rows,∀v∈r,closed v):Fz H (.sb id i n full) (.sim rows false):=by
 have key: ∀(r:Nat) (row row':List IV),b.rows[i+r]?=some row→rows[r]?=some row'→row=row'∧row∈rows:=by
  intro r row row' h1 h2
  have h3:=h2
  rw[←hrows,List.getElem?_take] at h3
  split at h3
  ·rw[List.getElem?_drop,h1] at h3
   cases h3
   exact⟨rfl,List.mem_of_getElem? h2⟩
  ·cases h3
 refine .sb hb hn (by rw[←hrows];simp;omega) (fun r row row' h1 h2=>by rw[(key r row row' h1 h2).1]) ?_
 intro r row row' c v v' h1 h2 h3 h4
 obtain⟨e,hm⟩:=key r row row' h1 h2
 subst e
 rw[h3] at h4
 cases h4
 exact .cl (hcl row hm v (List.mem_of_getElem? h3))
theorem draw_at(s:Bool)(n':Nat){P:Program}{l:List Oper}{Q:Exit→Fr→Heap→Prop}{a:Fr}{H:Heap}(h:drawOk s n' l.toArray=true)(hn:n'≤l.length)
  (k:vcO P l.toArray (some (s,[])) (l.take n') (fun a H=>vcO P l.toArray none (l.drop n') (Q .normal) a H) a H):drawK P l.toArray Q a H:=
 ⟨s,n',l.take n',l.drop n',h,by simp,by simp;omega,k⟩
@[simp] theorem str_beq (a b:ByteArray):(a.toList==b.toList)=decide (a=b):=by
 by_cases h:a=b
 ·subst h;simp
 ·have: ¬a.toList=b.toList:=by
   rw[ByteArray.toList_eq,ByteArray.toList_eq]
   intro e
   exact h (ByteArray.ext (Array.toList_inj.1 e))
  rw[beq_eq_false_iff_ne.2 this]
  simp[h]
@[simp] theorem one_bool (b:Bool):(IV.bool b).one=true:=Eq.trans rfl rfl
@[simp] theorem one_int (k:IntKind) (n:Int):(IV.int k n).one=true:=Eq.trans rfl rfl
@[simp] theorem one_str (b:ByteArray):(IV.str b).one=true:=Eq.trans rfl rfl
@[simp] theorem one_nilp:IV.nilp.one=true:=Eq.trans rfl rfl
@[simp] theorem one_nils:IV.nils.one=true:=Eq.trans rfl rfl
@[simp] theorem one_nilf:IV.nilf.one=true:=Eq.trans rfl rfl
@[simp] theorem one_nili:IV.nili.one=true:=Eq.trans rfl rfl
@[simp] theorem one_pb (id:Id) (i o:Nat):(IV.pb id i o).one=true:=Eq.trans rfl rfl
@[simp] theorem one_pim (r:List (List IV)) (i o:Nat):(IV.pim r i o).one=true:=Eq.trans rfl rfl
@[simp] theorem one_sb (id:Id) (i n:Nat) (f:Bool):(IV.sb id i n f).one=true:=Eq.trans rfl rfl
@[simp] theorem one_sim (r:List (List IV)) (f:Bool):(IV.sim r f).one=true:=Eq.trans rfl rfl
@[simp] theorem one_fn (f:Fn) (a b:List IV):(IV.fn f a b).one=true:=Eq.trans rfl rfl
@[simp] theorem one_iface (t:TypeId) (v:IV):(IV.iface t v).one=true:=Eq.trans rfl rfl
section nums
variable {P:Program} {t:TypeId} {k:IntKind} {a b:Int} {c:Bool}
@[simp] theorem bin_add:ibin P .add t (.int k a) (.int k b) c=some (.int k (k.wrap (a+b))):=by simp[ibin]
@[simp] theorem bin_sub:ibin P .sub t (.int k a) (.int k b) c=some (.int k (k.wrap (a-b))):=by simp[ibin]
@[simp] theorem bin_mul:ibin P .mul t (.int k a) (.int k b) c=some (.int k (k.wrap (a*b))):=by simp[ibin]
@[simp] theorem bin_quo:ibin P .quo t (.int k a) (.int k b) c=if b=0 then none else some (.int k (k.wrap (a.tdiv b))):=by simp[ibin]
@[simp] theorem bin_rem:ibin P .rem t (.int k a) (.int k b) c=if b=0 then none else some (.int k (a.tmod b)):=by simp[ibin]
@[simp] theorem bin_and:ibin P .and t (.int k a) (.int k b) c=some (.int k (k.wrap (BitVec.ofInt k.bits a&&&BitVec.ofInt k.bits b).toNat)):=by simp[ibin]
@[simp] theorem bin_or:ibin P .or t (.int k a) (.int k b) c=some (.int k (k.wrap (BitVec.ofInt k.bits a|||BitVec.ofInt k.bits b).toNat)):=by simp[ibin]
@[simp] theorem bin_xor:ibin P .xor t (.int k a) (.int k b) c=some (.int k (k.wrap (BitVec.ofInt k.bits a ^^^ BitVec.ofInt k.bits b).toNat)):=by simp[ibin]
@[simp] theorem bin_andNot:ibin P .andNot t (.int k a) (.int k b) c=some (.int k (k.wrap (BitVec.ofInt k.bits a&&& ~~~BitVec.ofInt k.bits b).toNat)):=by simp[ibin]
@[simp] theorem bin_shl {k':IntKind}:ibin P .shl t (.int k a) (.int k' b) c=if b<0 then none else some (.int k (k.wrap (a*2^(min b.toNat k.bits)))):=by simp[ibin]
@[simp] theorem bin_shr {k':IntKind}:ibin P .shr t (.int k a) (.int k' b) c=if b<0 then none else some (.int k (a.fdiv (2^(min b.toNat k.bits)))):=by simp[ibin]
@[simp] theorem bin_eql:ibin P .eql t (.int k a) (.int k b) c=some (.bool (decide (a=b))):=by by_cases h:a=b<;>simp[ibin,h]
@[simp] theorem bin_neq:ibin P .neq t (.int k a) (.int k b) c=some (.bool (decide (a≠b))):=by by_cases h:a=b<;>simp[ibin,h]
@[simp] theorem bin_lss:ibin P .lss t (.int k a) (.int k b) c=some (.bool (decide (a<b))):=by simp[ibin]
@[simp] theorem bin_leq:ibin P .leq t (.int k a) (.int k b) c=some (.bool (decide (a≤b))):=by simp[ibin]
@[simp] theorem bin_gtr:ibin P .gtr t (.int k a) (.int k b) c=some (.bool (decide (b<a))):=by simp[ibin]
@[simp] theorem bin_geq:ibin P .geq t (.int k a) (.int k b) c=some (.bool (decide (b≤a))):=by simp[ibin]
end nums
@[simp] theorem bin_seql {P:Program} {t:TypeId} {a b:ByteArray} {c:Bool}:ibin P .eql t (.str a) (.str b) c=some (.bool (decide (a=b))):=by simp[ibin]
@[simp] theorem bin_sneq {P:Program} {t:TypeId} {a b:ByteArray} {c:Bool}:ibin P .neq t (.str a) (.str b) c=some (.bool (decide (a≠b))):=by simp[ibin]
@[simp] theorem ipart_false (sz off:Nat) (cs:List IV):ipart false sz off cs=cs[off]?:=by simp[ipart]
theorem splice_all(cs xs:List IV)(h:cs.length=xs.length):splice cs 0 xs=xs:=by simp[splice,h]
set_option linter.defProp false
def u_ibsl(P:_)(H:_)(k:_)(t:_)(n:_)(ps:_):=(ibsl.eq_def P H k t n ps).trans rfl
def u_ibslice(P:_)(t:_)(n:_)(ps:_):=(ibslice.eq_def P t n ps).trans rfl
def u_Fr_has(a:_)(d:_):=(Fr.has.eq_def a d).trans rfl
def u_Fr_putO(a:_)(d:_)(v:_):=(Fr.putO.eq_def a d v).trans rfl
def u_gd(ops:_)(g:_)(a:_):=(gd.eq_def ops g a).trans rfl
def u_ialloc(P:_)(H:_)(k:_)(t:_):=(ialloc.eq_def P H k t).trans rfl
def u_ibox(H:_)(k:_)(v:_):=(ibox.eq_def H k v).trans rfl
def u_iun(op:_)(x:_):=(iun.eq_def op x).trans rfl
def u_iload(P:_)(H:_)(t:_)(p:_):=(iload.eq_def P H t p).trans rfl
def u_ifaddr(P:_)(t:_)(p:_)(f:_):=(ifaddr.eq_def P t p f).trans rfl
def u_iext(x:_)(n:_):=(iext.eq_def x n).trans rfl
def u_imax(b:_)(l:_):=(imax.eq_def b l).trans rfl
def u_ibuild(P:_)(t:_)(ps:_):=(ibuild.eq_def P t ps).trans rfl
def u_ibuildK(P:_)(t:_)(ps:_):=(ibuildK.eq_def P t ps).trans rfl
def u_reads(o:_):=(reads.eq_def o).trans rfl
attribute [simp] u_reads irows ifill IV.cells iress u_ibsl u_ibslice u_Fr_has u_Fr_putO u_gd u_ialloc u_ibox u_iun u_iload u_ifaddr u_iext u_imax u_ibuild u_ibuildK
end Go.Proofs.Ytoojnagdenoknaa.IL
