/- The pure layer: what Go text computes, as Lean functions over numbers, lists and structures; none: it panics, or is out of bounds. Nothing here speaks of a program. -/
import Derived.Test.YtoojnagdenoknaaIL0
set_option linter.unusedSimpArgs false
set_option linter.unusedSectionVars false
set_option linter.unusedVariables false
set_option linter.unnecessarySimpa false
namespace Go.Proofs.Ytoojnagdenoknaa.PL
open Go
structure A2 (α:Type) where
 a0:α
 a1:α
 deriving DecidableEq
def A2.get{α:Type}(x:A2 α)(i:Int):Option α:=if i=0 then some x.a0 else if i=1 then some x.a1 else none
def A2.set{α:Type}(x:A2 α)(i:Int)(v:α):Option (A2 α):=if i=0 then some {x with a0:=v} else if i=1 then some {x with a1:=v} else none
def ix2(i:Int):Option Bool:=if i=0 then some false else if i=1 then some true else none
def A2.at{α:Type}(x:A2 α)(c:Bool):α:=if c=true then x.a1 else x.a0
theorem yz{α:Type}(x:A2 α):x.at true=x.a1:=Eq.trans rfl rfl
theorem kB{α:Type}(x:A2 α):x.at false=x.a0:=Eq.trans rfl rfl
theorem ix2_t{i:Int}{c:Bool}(h:ix2 i=some c)(hc:c=true):i=1:=by
 subst hc;unfold ix2 at h;split at h
 ·cases h
 ·split at h
  ·assumption
  ·cases h
theorem ix2_f{i:Int}{c:Bool}(h:ix2 i=some c)(hc:c=false):i=0:=by
 subst hc;unfold ix2 at h;split at h
 ·assumption
 ·split at h<;>cases h
def idx{α:Type}(xs:List α)(i:Int):Option α:=if 0≤i then xs[i.toNat]? else none
def setI{α:Type}(xs:List α)(i:Int)(x:α):Option (List α):=if 0≤i∧i.toNat<xs.length then some (xs.set i.toNat x) else none
def app{α:Type}(xs ys:List α):Option (List α):=if xs.length+ys.length≤4294967296 then some (xs++ys) else none
def mk{α:Type}(n:Int)(z:α):Option (List α):=if 0≤n∧n≤4294967296 then some (List.replicate n.toNat z) else none
def sli{α:Type}(xs:List α)(lo hi:Int):Option (List α):=if 0≤lo∧lo≤hi∧hi≤(xs.length:Int) then some ((xs.drop lo.toNat).take (hi.toNat-lo.toNat)) else none
def quo(k:IntKind)(a b:Int):Option Int:=if b=0 then none else some (k.wrap (a.tdiv b))
def rem(a b:Int):Option Int:=if b=0 then none else some (a.tmod b)
def shl(k:IntKind)(a b:Int):Option Int:=if b<0 then none else some (k.wrap (a*2^(min b.toNat k.bits)))
def shr(k:IntKind)(a b:Int):Option Int:=if b<0 then none else some (a.fdiv (2^(min b.toNat k.bits)))
def band(k:IntKind)(a b:Int):Int:=k.wrap (BitVec.ofInt k.bits a&&&BitVec.ofInt k.bits b).toNat
def bor(k:IntKind)(a b:Int):Int:=k.wrap (BitVec.ofInt k.bits a|||BitVec.ofInt k.bits b).toNat
def bxor(k:IntKind)(a b:Int):Int:=k.wrap (BitVec.ofInt k.bits a ^^^ BitVec.ofInt k.bits b).toNat
def bclr(k:IntKind)(a b:Int):Int:=k.wrap (BitVec.ofInt k.bits a&&& ~~~BitVec.ofInt k.bits b).toNat
inductive Ex (σ ρ:Type)
 |n (s:σ)
 |b (s:σ)
 |r (v:ρ)
def bindE{σ ρ τ:Type}(x:Option (Ex σ ρ))(k:σ→Option τ)(q:ρ→Option τ):Option τ:=
 match x with
 |some (.n s)=>k s
 |some (.r v)=>q v
 |_=>none
def forN{σ:Type}:Nat→Int→(Int→σ→Option σ)→σ→Option σ
 |0,_,_,s=>some s
 |m+1,i,f,s=>(f i s).bind fun s=>forN m (i+1) f s
def forE{σ ρ:Type}:Nat→Int→(Int→σ→Option (Ex σ ρ))→σ→Option (Ex σ ρ)
 |0,_,_,s=>some (.n s)
 |m+1,i,f,s=>(f i s).bind fun e=>match e with
  | .n s=>forE m (i+1) f s
  | .b s=>some (.n s)
  | .r v=>some (.r v)
def toN{σ:Type}(lo hi:Int)(f:Int→σ→Option σ)(s:σ):Option σ:=if hi≤4294967296∧ -4294967296≤lo then forN (hi-lo).toNat lo f s else none
def toE{σ ρ:Type}(lo hi:Int)(f:Int→σ→Option (Ex σ ρ))(s:σ):Option (Ex σ ρ):=if hi≤4294967296∧ -4294967296≤lo then forE (hi-lo).toNat lo f s else none
def loopE{σ ρ:Type}:Nat→(σ→Option (Ex σ ρ))→σ→Option (Ex σ ρ)
 |0,_,_=>none
 |m+1,f,s=>(f s).bind fun e=>match e with
  | .n s=>loopE m f s
  | .b s=>some (.n s)
  | .r v=>some (.r v)
def runL{σ α:Type}(y:σ→α→Option (Bool×σ)):σ→List α→Option (Bool×σ)
 |t,[]=>some (true,t)
 |t,x::xs=>(y t x).bind fun r=>if r.1=true then runL y r.2 xs else some r
def yl{σ α:Type}(y:σ→α→Option (Bool×σ))(s:Bool×σ)(x:α):Option (Bool×(Bool×σ)):=if s.1=true then(y s.2 x).map fun r=>(r.1,r) else none
theorem bndO{α β:Type}{x:Option α}{f:α→Option β}{b:β}(h:x.bind f=some b): ∃a,x=some a∧f a=some b:=Option.bind_eq_some_iff.1 h
def outE{σ ρ τ:Type}(e:Ex σ ρ)(k:σ→Option τ)(q:ρ→Option τ):Option τ:=
 match e with
 | .n s=>k s
 | .r v=>q v
 |_=>none
theorem bndE{σ ρ τ:Type}{x:Option (Ex σ ρ)}{k:σ→Option τ}{q:ρ→Option τ}{b:τ}(h:bindE x k q=some b): ∃e,x=some e∧outE e k q=some b:=by
 cases x with
 |none=>simp[bindE] at h
 |some e=>exact⟨e,rfl,by cases e<;>simpa [bindE,outE] using h⟩
def nextE{σ ρ:Type}(m:Nat)(i:Int)(f:Int→σ→Option (Ex σ ρ))(e:Ex σ ρ):Ex σ ρ→Prop
 | .n s=>forE m i f s=some e
 | .b s=>e= .n s
 | .r v=>e= .r v
def nextL{σ ρ:Type}(m:Nat)(f:σ→Option (Ex σ ρ))(e:Ex σ ρ):Ex σ ρ→Prop
 | .n s=>loopE m f s=some e
 | .b s=>e= .n s
 | .r v=>e= .r v
theorem toE_facts{σ ρ:Type}{lo hi:Int}{f:Int→σ→Option (Ex σ ρ)}{s:σ}{e:Ex σ ρ}(h:toE lo hi f s=some e):hi≤4294967296∧ -4294967296≤lo∧forE (hi-lo).toNat lo f s=some e:=by
 unfold toE at h
 split at h
 ·rename_i c;exact⟨c.1,c.2,h⟩
 ·cases h
theorem toN_facts{σ:Type}{lo hi:Int}{f:Int→σ→Option σ}{s e:σ}(h:toN lo hi f s=some e):hi≤4294967296∧ -4294967296≤lo∧forN (hi-lo).toNat lo f s=some e:=by
 unfold toN at h
 split at h
 ·rename_i c;exact⟨c.1,c.2,h⟩
 ·cases h
theorem forE_step{σ ρ:Type}{hi i:Int}{f:Int→σ→Option (Ex σ ρ)}{s:σ}{e:Ex σ ρ}(h:forE (hi-i).toNat i f s=some e)(hl:i<hi): ∃e1,f i s=some e1∧nextE (hi-(i+1)).toNat (i+1) f e e1:=by
 rw[show(hi-i).toNat=(hi-(i+1)).toNat+1 by omega,forE] at h
 obtain⟨e1,h1,h2⟩:=bndO h
 refine⟨e1,h1,?_⟩
 cases e1 with
 |n s=>exact h2
 |b s=>simpa [nextE,eq_comm] using h2
 |r v=>simpa [nextE,eq_comm] using h2
theorem forE_end{σ ρ:Type}{hi i:Int}{f:Int→σ→Option (Ex σ ρ)}{s:σ}{e:Ex σ ρ}(h:forE (hi-i).toNat i f s=some e)(hl: ¬i<hi):e= .n s:=by
 rw[show(hi-i).toNat=0 by omega,forE] at h
 exact(Option.some.inj h).symm
theorem forN_step{σ:Type}{hi i:Int}{f:Int→σ→Option σ}{s e:σ}(h:forN (hi-i).toNat i f s=some e)(hl:i<hi): ∃e1,f i s=some e1∧forN (hi-(i+1)).toNat (i+1) f e1=some e:=by
 rw[show(hi-i).toNat=(hi-(i+1)).toNat+1 by omega,forN] at h
 exact bndO h
theorem forN_end{σ:Type}{hi i:Int}{f:Int→σ→Option σ}{s e:σ}(h:forN (hi-i).toNat i f s=some e)(hl: ¬i<hi):s=e:=by
 rw[show(hi-i).toNat=0 by omega,forN] at h
 exact Option.some.inj h
theorem za{σ ρ:Type}{m:Nat}{f:σ→Option (Ex σ ρ)}{s:σ}{e:Ex σ ρ}(h:loopE m f s=some e): ∃m',m'<m∧ ∃e1,f s=some e1∧nextL m' f e e1:=by
 cases m with
 |zero=>cases h
 |succ m=>
  rw[loopE] at h
  obtain⟨e1,h1,h2⟩:=bndO h
  refine⟨m,Nat.lt_succ_self _,e1,h1,?_⟩
  cases e1 with
  |n s=>exact h2
  |b s=>simpa [nextL,eq_comm] using h2
  |r v=>simpa [nextL,eq_comm] using h2
theorem yP{x:Int}(h1: -9223372036854775808≤x)(h2:x≤9223372036854775807):IntKind.i64.wrap x=x:=by
 simp[IntKind.wrap,IntKind.bits,IntKind.signed,IntKind.min,IntKind.max]
 omega
theorem kJ{i hi lo:Int}(h:i<hi)(h1:hi≤4294967296)(h2: -4294967296≤lo)(h3:lo≤i):IntKind.i64.wrap (i+1)=i+1:=yP (by omega) (by omega)
theorem yn{α:Type}{xs:List α}{i:Int}{x:α}(h:idx xs i=some x):0≤i∧i<(xs.length:Int)∧xs[i.toNat]?=some x:=by
 unfold idx at h
 split at h
 ·rename_i h0
  have:=(List.getElem?_eq_some_iff.1 h).1
  exact⟨h0,by omega,h⟩
 ·cases h
end Go.Proofs.Ytoojnagdenoknaa.PL
