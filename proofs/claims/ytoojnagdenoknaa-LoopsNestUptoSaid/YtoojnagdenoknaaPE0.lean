/- The pure layer: cells of simple values. Nothing here speaks of a given program. -/
import Derived.Test.YtoojnagdenoknaaPL0
import Derived.Test.YtoojnagdenoknaaILH
set_option linter.unusedSectionVars false
set_option linter.unnecessarySimpa false
set_option linter.unusedVariables false
set_option linter.unusedSimpArgs false
namespace Go.Proofs.Ytoojnagdenoknaa.IL
open Go Go.RowKit PL
def eInt(x:Int):List IV:=[.int .i64 x]
def eStr(x:ByteArray):List IV:=[.str x]
def eBool(x:Bool):List IV:=[.bool x]
def eFn(x:Nat):List IV:=[.fn (.func x) [] []]
theorem zh(b:Bool):closed (.bool b):=fun J S u h=>by cases h;exact .bool b
theorem zG(k:IntKind)(n:Int):closed (.int k n):=fun J S u h=>by cases h;exact .int k n
theorem yS(s:ByteArray):closed (.str s):=fun J S u h=>by cases h;exact .str s
theorem closed_nils:closed .nils:=fun J S u h=>by cases h;exact .nils
theorem closed_agg{cs:List IV}(h: ∀v∈cs,closed v):closed (.agg cs):=fun J S u hu=>by
 cases hu with
 |agg hl hV=>exact .agg hl fun k v x hv hx=>h v (List.mem_of_getElem? hv) J S x (hV k v x hv hx)
theorem closed_sim{rows:List (List IV)}{full:Bool}(h: ∀r∈rows,∀v∈r,closed v):closed (.sim rows full):=fun J S u hu=>by
 cases hu with
 |sim hE hS hV hc hf=>exact .sim hE hS (fun r row c v hr hv=>h row (List.mem_of_getElem? hr) v (List.mem_of_getElem? hv) J S _ (hV r row c v hr hv)) hc hf
 |simnil=>exact .simnil
theorem closed_pim{rows:List (List IV)}{i o:Nat}(h: ∀r∈rows,∀v∈r,closed v):closed (.pim rows i o):=fun J S u hu=>by
 cases hu with
 |pim hE hS hV=>exact .pim hE hS (fun r row c v hr hv=>h row (List.mem_of_getElem? hr) v (List.mem_of_getElem? hv) J S _ (hV r row c v hr hv))
def Cl1(l:List IV):Prop:= ∀v∈l,closed v∧v.one=true
theorem zp{α:Type}{f:α→List IV}(h: ∀x,Cl1 (f x))(xs:List α):closed (.sim (xs.map f) false):=
 closed_sim fun r hr v hv=>by
  obtain⟨x,_,rfl⟩:=List.mem_map.1 hr
  exact(h x v hv).1
theorem zm(x:Int):Cl1 (eInt x):=by intro v hv;simp[eInt] at hv;subst hv;exact⟨zG _ _,rfl⟩
theorem cl_eStr(x:ByteArray):Cl1 (eStr x):=by intro v hv;simp[eStr] at hv;subst hv;exact⟨yS _,rfl⟩
theorem ya:Cl1 []:=by intro v hv;cases hv
theorem zX{v:IV}{l:List IV}(h:closed v)(h1:v.one=true)(k:Cl1 l):Cl1 (v::l):=by
 intro x hx
 rcases List.mem_cons.1 hx with rfl|hx
 ·exact⟨h,h1⟩
 ·exact k x hx
theorem cl_one{v:IV}(h:closed v)(h1:v.one=true):Cl1 [v]:=zX h h1 ya
theorem cl_append{a b:List IV}(h:Cl1 a)(k:Cl1 b):Cl1 (a++b):=by
 intro x hx
 rcases List.mem_append.1 hx with hx|hx
 ·exact h x hx
 ·exact k x hx
theorem zzh{l:List IV}(h:Cl1 l):closed (.agg l):=closed_agg fun v hv=>(h v hv).1
def eI(k:IntKind)(x:Int):List IV:=[.int k x]
def eS{α:Type}(f:α→List IV)(x:List α):List IV:=[.sim (x.map f) false]
def eP{α:Type}(f:α→List IV)(x:α):List IV:=[.pim [f x] 0 0]
def eA2{α:Type}(f:α→List IV)(x:A2 α):List IV:=f x.a0++f x.a1
theorem cl_eI(k:IntKind)(x:Int):Cl1 (eI k x):=cl_one (zG _ _) rfl
theorem cl_eS{α:Type}{f:α→List IV}(h: ∀x,Cl1 (f x))(x:List α):Cl1 (eS f x):=cl_one (zp h x) rfl
theorem zl{α:Type}{f:α→List IV}(h: ∀x,Cl1 (f x))(x:α):closed (.pim [f x] 0 0):=closed_pim fun r hr v hv=>by
 rw[List.mem_singleton.1 hr] at hv;exact(h x v hv).1
theorem cl_eP{α:Type}{f:α→List IV}(h: ∀x,Cl1 (f x))(x:α):Cl1 (eP f x):=cl_one (zl h x) rfl
theorem cl_eA2{α:Type}{f:α→List IV}(h: ∀x,Cl1 (f x))(x:A2 α):Cl1 (eA2 f x):=cl_append (h _) (h _)
theorem cls{α:Type}{f:α→List IV}(h: ∀x,Cl1 (f x))(xs:List α): ∀r∈xs.map f,∀v∈r,closed v:=by
 intro r hr v hv
 obtain⟨x,_,rfl⟩:=List.mem_map.1 hr
 exact(h x v hv).1
theorem ones{α:Type}{f:α→List IV}(h: ∀x,Cl1 (f x))(xs:List α): ∀r∈xs.map f,∀v∈r,v.one=true:=by
 intro r hr v hv
 obtain⟨x,_,rfl⟩:=List.mem_map.1 hr
 exact(h x v hv).2
theorem sEnc:(∀x,(eFn x).length=1)∧(∀x,(eFn x)[0]?=some (.fn (.func x) [] []))∧(∀x y,splice (eFn x) 0 [y]=[y])∧(∀x,(eInt x).length=1)∧(∀x,(eInt x)[0]?=some (.int .i64 x))∧(∀x,(eStr x).length=1)∧(∀x,(eStr x)[0]?=some (.str x))∧(∀x,(eBool x).length=1)∧(∀x,(eBool x)[0]?=some (.bool x))∧
  (∀k x,(eI k x).length=1)∧(∀k x,(eI k x)[0]?=some (.int k x))∧(∀x y,splice (eInt x) 0 [y]=[y])∧(∀x y,splice (eStr x) 0 [y]=[y])∧(∀x y,splice (eBool x) 0 [y]=[y])∧(∀k x y,splice (eI k x) 0 [y]=[y]):=
 ⟨fun _=>rfl,fun _=>rfl,fun _ _=>rfl,fun _=>rfl,fun _=>rfl,fun _=>rfl,fun _=>rfl,fun _=>rfl,fun _=>rfl,fun _ _=>rfl,fun _ _=>rfl,fun _ _=>rfl,fun _ _=>rfl,fun _ _=>rfl,fun _ _ _=>rfl⟩
theorem sS{α:Type}(f:α→List IV):(∀x,(eS f x).length=1)∧(∀x,(eS f x)[0]?=some (.sim (x.map f) false))∧(∀x y,splice (eS f x) 0 [y]=[y])∧(∀x,(eP f x).length=1)∧(∀x,(eP f x)[0]?=some (.pim [f x] 0 0))∧(∀x y,splice (eP f x) 0 [y]=[y]):=
 ⟨fun _=>rfl,fun _=>rfl,fun _ _=>rfl,fun _=>rfl,fun _=>rfl,fun _ _=>rfl⟩
theorem closed_mim{rows:List (List IV)}(h: ∀r∈rows,∀v∈r,closed v):closed (.mim rows):=fun J S u hu=>by
 cases hu with
 |mimnil=>exact .mimnil
 |mim hS hl ho hb hr hK hV=>
  exact .mim hS hl ho hb hr (fun i x k v hx hi=>h _ (List.mem_of_getElem? hi) k (by simp) J S _ (hK i x k v hx hi)) (fun i x k v hx hi=>h _ (List.mem_of_getElem? hi) v (by simp) J S _ (hV i x k v hx hi))
def eM{γ:Type}(f:γ→List IV)(m:List γ):List IV:=[.mim (m.map f)]
theorem cl_mim{γ:Type}{f:γ→List IV}(h: ∀x,Cl1 (f x))(m:List γ):closed (.mim (m.map f)):=closed_mim fun r hr v hv=>by
 obtain⟨x,_,rfl⟩:=List.mem_map.1 hr
 exact(h x v hv).1
theorem cl_eM{γ:Type}{f:γ→List IV}(h: ∀x,Cl1 (f x))(m:List γ):Cl1 (eM f m):=cl_one (cl_mim h m) rfl
def ePr{κ β:Type}(f:κ→List IV)(g:β→List IV)(x:κ×β):List IV:=f x.1++g x.2
theorem cl_ePr{κ β:Type}{f:κ→List IV}{g:β→List IV}(h: ∀x,Cl1 (f x))(k: ∀x,Cl1 (g x))(x:κ×β):Cl1 (ePr f g x):=cl_append (h _) (k _)
end Go.Proofs.Ytoojnagdenoknaa.IL
