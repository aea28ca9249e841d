/- The ideal logic, part 0: ideal values and heaps, and how a real world is related to them. Nothing here speaks of a program. -/
import Derived.Tactics
import Derived.Below
import Derived.Laws.Cells
import Derived.Laws.Append
import Derived.Laws.AppendOwn
import Derived.KernelRfl
set_option linter.unusedVariables false
set_option linter.unusedSimpArgs false
set_option linter.unusedSectionVars false
set_option linter.unnecessarySimpa false
namespace Go.Proofs.Ytoojnagdenoknaa.IL
open Go Go.RowKit
structure Id where
 k:Nat
 g:Nat
instance:DecidableEq Id:=fun a b=>
 if h:a.k=b.k∧a.g=b.g then .isTrue (by cases a;cases b;simp_all) else .isFalse (fun e=>h (by subst e;exact⟨rfl,rfl⟩))
inductive IV where
 |junk
 |bool (b:Bool)
 |int (k:IntKind) (n:Int)
 |str (s:ByteArray)
 |nilp
 |pb (id:Id) (i o:Nat)
 |pim (rows:List (List IV)) (i o:Nat)
 |nils
 |sb (id:Id) (i len:Nat) (full:Bool)
 |sim (rows:List (List IV)) (full:Bool)
 |sime
 |fn (f:Fn) (first captured:List IV)
 |nilf
 |yld (id:Id)
 |nili
 |iface (t:TypeId) (v:IV)
 |agg (cs:List IV)
 |tup (vs:List IV)
 |mp (id:Id)
 |nilm
 |mim (rows:List (List IV))
 |real (u:Value)
structure Loc where
 rb:Nat
 ro:Nat
 E:Nat
 sz:Nat
 mp:Bool:=false
abbrev Inj:=Id→Option Loc
inductive Kno where
 |c (a:Addr)
 |m (b:Nat)
def Kno.blk:Kno→Nat
 | .c a=>a.block
 | .m b=>b
instance:Coe Addr Kno:=⟨.c⟩
abbrev Sure:=Kno→Value→Prop
def mobj(es:Array MapEntry)(c:Nat):Value:= .tuple #[.tuple (es.map fun e=> .tuple #[e.key,e.val,.int .i64 (e.born:Int)]),.int .i64 (c:Int)]
def mlook:Option Obj→Option Value
 |some (.map es c)=>some (mobj es c)
 |_=>none
def kno(w:World):Kno→Option Value
 | .c a=>w.cell? a
 | .m b=>mlook w.heap[b]?
theorem mobj_inj{es es':Array MapEntry}{c c':Nat}(h:mobj es c=mobj es' c'):es=es'∧c=c':=by
 unfold mobj at h
 simp only[Value.tuple.injEq,Array.mk.injEq,List.cons.injEq,Value.int.injEq,true_and,and_true] at h
 obtain⟨h1,h2⟩:=h
 refine⟨?_,by omega⟩
 have key:Function.Injective fun e:MapEntry=>Value.tuple #[e.key,e.val,.int .i64 (e.born:Int)]:=by
  rintro⟨k,v,b⟩ ⟨k',v',b'⟩ h
  simp only[Value.tuple.injEq,Array.mk.injEq,List.cons.injEq,Value.int.injEq,true_and,and_true] at h
  obtain⟨rfl,rfl,h⟩:=h
  have:b=b':=by omega
  subst this;rfl
 exact(Array.map_inj_right key).1 h1
theorem kno_m{w:World}{b:Nat}{v:Value}(h:kno w (.m b)=some v): ∃es c,w.heap[b]?=some (.map es c)∧v=mobj es c:=by
 have h:mlook w.heap[b]?=some v:=h
 generalize w.heap[b]?=o at h
 unfold mlook at h
 split at h
 ·cases h;exact⟨_,_,rfl,rfl⟩
 ·cases h
theorem kno_lt{w:World}: ∀{a:Kno} {v:Value},kno w a=some v→a.blk<w.heap.size
 | .c a,v,h=>World.block_lt_of_cell? w _ h
 | .m b,v,h=>by obtain⟨es,c,h,_⟩:=kno_m h;exact(Array.getElem?_eq_some_iff.1 h).1
theorem yT{w w':World}: ∀{a:Kno},w'.heap[a.blk]?=w.heap[a.blk]?→kno w' a=kno w a
 | .c a,e=>by show w'.cell? a=w.cell? a;simp only[World.cell?];rw[show w'.heap[a.block]?=w.heap[a.block]? from e]
 | .m b,e=>by show mlook w'.heap[b]?=mlook w.heap[b]?;rw[show w'.heap[b]?=w.heap[b]? from e]
theorem zzQ(a:Addr)(m n:Nat):(a.add m).add n=a.add (m+n):=by
 unfold Addr.add
 by_cases hm:m=0<;>by_cases hn:n=0<;>simp[hm,hn,Nat.add_assoc]
inductive VR (J:Inj) (S:Sure):IV→Value→Prop
 |junk (v:Value):VR J S .junk v
 |real (v:Value):VR J S (.real v) v
 |bool (b:Bool):VR J S (.bool b) (.bool b)
 |int (k:IntKind) (n:Int):VR J S (.int k n) (.int k n)
 |str (s:ByteArray):VR J S (.str s) (.string s)
 |nilp:VR J S .nilp (.pointer none)
 |mp {id:Id} {L:Loc} (h:J id=some L) (hm:L.mp=true):VR J S (.mp id) (.map (some L.rb))
 |nilm:VR J S .nilm (.map none)
 |mimnil:VR J S (.mim []) (.map none)
 |mim {rows:List (List IV)} {b:Nat} {es:Array MapEntry} {c:Nat} (hS:S (.m b) (mobj es c)) (hl:es.size=rows.length) (ho: ∀(i j:Nat) (x y:MapEntry),es[i]?=some x→es[j]?=some y→i<j→x.born<y.born)
   (hb: ∀(i:Nat) (x:MapEntry),es[i]?=some x→x.born<c) (hr: ∀(i:Nat) (row:List IV),rows[i]?=some row→ ∃k v,row=[k,v])
   (hK: ∀(i:Nat) (x:MapEntry) (k v:IV),es[i]?=some x→rows[i]?=some [k,v]→VR J S k x.key) (hV: ∀(i:Nat) (x:MapEntry) (k v:IV),es[i]?=some x→rows[i]?=some [k,v]→VR J S v x.val):VR J S (.mim rows) (.map (some b))
 |pb {id:Id} {L:Loc} {i o:Nat} (h:J id=some L) (hm:L.mp=false:=by first|rfl|assumption):VR J S (.pb id i o) (.pointer (some ⟨L.rb,L.ro+i*L.E+o,none⟩))
 |pim {rows:List (List IV)} {i o E:Nat} {base:Addr} {f:Nat→Nat→Value}
   (hE: ∀(r:Nat) (row:List IV),rows[r]?=some row→row.length=E)
   (hS: ∀(r:Nat) (row:List IV) (c:Nat) (v:IV),rows[r]?=some row→row[c]?=some v→S (base.add (r*E+c)) (f r c))
   (hV: ∀(r:Nat) (row:List IV) (c:Nat) (v:IV),rows[r]?=some row→row[c]?=some v→VR J S v (f r c)):
   VR J S (.pim rows i o) (.pointer (some (base.add (i*E+o))))
 |nils:VR J S .nils (.slice none 0 0)
 |sb {id:Id} {L:Loc} {i len c:Nat} {full:Bool} {ad:Addr} (h:J id=some L) (hc:len≤c) (hz:c≠0→ad=⟨L.rb,L.ro+i*L.E,none⟩∧L.ro+(i+c)*L.E≤L.sz) (hf:full=true→c=len) (hm:L.mp=false:=by first|rfl|assumption):
   VR J S (.sb id i len full) (.slice (some ad) len c)
 |sim {rows:List (List IV)} {full:Bool} {c E:Nat} {base:Addr} {f:Nat→Nat→Value}
   (hE: ∀(r:Nat) (row:List IV),rows[r]?=some row→row.length=E)
   (hS: ∀(r:Nat) (row:List IV) (c:Nat) (v:IV),rows[r]?=some row→row[c]?=some v→S (base.add (r*E+c)) (f r c))
   (hV: ∀(r:Nat) (row:List IV) (c:Nat) (v:IV),rows[r]?=some row→row[c]?=some v→VR J S v (f r c))
   (hc:rows.length≤c) (hf:full=true→c=rows.length):
   VR J S (.sim rows full) (.slice (some base) rows.length c)
 |simnil {full:Bool}:VR J S (.sim [] full) (.slice none 0 0)
 |sime {ad:Addr} {c:Nat}:VR J S .sime (.slice (some ad) 0 c)
 |fn {f:Fn} {first captured:List IV} {fs cs:Array Value} (h1:first.length=fs.size) (h2:captured.length=cs.size)
   (hV1: ∀(k:Nat) (v:IV) (u:Value),first[k]?=some v→fs[k]?=some u→VR J S v u) (hV2: ∀(k:Nat) (v:IV) (u:Value),captured[k]?=some v→cs[k]?=some u→VR J S v u):
   VR J S (.fn f first captured) (.func f fs cs)
 |nilf:VR J S .nilf .nilFunc
 |yld {id:Id} {L:Loc} (h:J id=some L):VR J S (.yld id) (.func (.yield L.rb) #[] #[])
 |nili:VR J S .nili .nilIface
 |iface {t:TypeId} {v:IV} {u:Value} (h:VR J S v u):VR J S (.iface t v) (.iface t u)
 |agg {cs:List IV} {us:Array Value} (h:cs.length=us.size) (hV: ∀(k:Nat) (v:IV) (u:Value),cs[k]?=some v→us[k]?=some u→VR J S v u):VR J S (.agg cs) (.agg us)
 |tup {cs:List IV} {us:Array Value} (h:cs.length=us.size) (hV: ∀(k:Nat) (v:IV) (u:Value),cs[k]?=some v→us[k]?=some u→VR J S v u):VR J S (.tup cs) (.tuple us)
theorem VR.mono{J J':Inj}{S S':Sure}(hJ: ∀id L,J id=some L→J' id=some L)(hS: ∀a v,S a v→S' a v){v:IV}{u:Value}(h:VR J S v u):VR J' S' v u:=by
 induction h with
 |junk v=>exact .junk v
 |real v=>exact .real v
 |bool b=>exact .bool b
 |int k n=>exact .int k n
 |str s=>exact .str s
 |nilp=>exact .nilp
 |mp h hm=>exact .mp (hJ _ _ h) hm
 |nilm=>exact .nilm
 |mimnil=>exact .mimnil
 |mim hs hl ho hb hr hK hV ih1 ih2=>exact .mim (hS _ _ hs) hl ho hb hr ih1 ih2
 |pb h hm=>exact .pb (hJ _ _ h) hm
 |pim hE hs hV ih=>exact .pim hE (fun r row c v h1 h2=>hS _ _ (hs r row c v h1 h2)) ih
 |nils=>exact .nils
 |sb h hc hz hf hm=>exact .sb (hJ _ _ h) hc hz hf hm
 |sim hE hs hV hc hf ih=>exact .sim hE (fun r row c v h1 h2=>hS _ _ (hs r row c v h1 h2)) ih hc hf
 |simnil=>exact .simnil
 |sime=>exact .sime
 |fn h1 h2 hV1 hV2 ih1 ih2=>exact .fn h1 h2 ih1 ih2
 |nilf=>exact .nilf
 |yld h=>exact .yld (hJ _ _ h)
 |nili=>exact .nili
 |iface h ih=>exact .iface ih
 |agg h hV ih=>exact .agg h ih
 |tup h hV ih=>exact .tup h ih
def VRs(J:Inj)(S:Sure)(vs:List IV)(us:Array Value):Prop:=
 vs.length=us.size∧ ∀(k:Nat) (v:IV) (u:Value),vs[k]?=some v→us[k]?=some u→VR J S v u
theorem VRs.mono{J J':Inj}{S S':Sure}(hJ: ∀id L,J id=some L→J' id=some L)(hS: ∀a v,S a v→S' a v){v:List IV}{u:Array Value}(h:VRs J S v u):VRs J' S' v u:=
 ⟨h.1,fun k v u h1 h2=>(h.2 k v u h1 h2).mono hJ hS⟩
structure Blk where
 E:Nat
 rows:List (List IV)
structure Fr where
 n:Nat
 b:Nat
 get:Nat→IV
def Fr.put(a:Fr)(d:Nat)(v:IV):Fr:={a with get:=fun t=>if t=d then v else a.get t}
def Fr.putO(a:Fr):Option Tmp→IV→Fr
 |some d,v=>a.put d v
 |none,_=>a
inductive LSt where
 |ready
 |busy
 |done (c:Code)
structure LS where
 fr:Fr
 ps:Array Tmp
 asg:Code
 body:Code
 st:LSt
structure Heap where
 get:Id→Option Blk
 next:Nat→Nat
 loop:Id→Option LS
def Heap.put(H:Heap)(id:Id)(b:Blk):Heap:={H with get:=fun j=>if j=id then some b else H.get j}
def Heap.del(H:Heap)(id:Id):Heap:={H with get:=fun j=>if j=id then none else H.get j}
def Heap.fresh(H:Heap)(k:Nat):Id:=⟨k,H.next k⟩
def Heap.new(H:Heap)(k:Nat)(b:Blk):Heap:={H with get:=fun j=>if j=H.fresh k then some b else H.get j,next:=fun j=>if j=k then H.next k+1 else H.next j}
def Heap.nil(N:Nat→Nat):Heap:={get:=fun _=>none,next:=N,loop:=fun _=>none}
def Heap.has(H:Heap)(id:Id):Prop:=(∃b,H.get id=some b)∨ ∃s,H.loop id=some s
def gtab:Nat→Option (List (List IV)):=fun _=>none
def GOk(S:Sure):Prop:= ∀(g:Nat) rows,gtab g=some rows→ ∃(E:Nat) (f:Nat→Nat→Value),(∀(r:Nat) (row:List IV),rows[r]?=some row→row.length=E)∧
 (∀(r:Nat) (row:List IV) (c:Nat) (v:IV),rows[r]?=some row→row[c]?=some v→S ((⟨g,0,none⟩:Addr).add (r*E+c)) (f r c))∧
 (∀J (r:Nat) (row:List IV) (c:Nat) (v:IV),rows[r]?=some row→row[c]?=some v→VR J S v (f r c))
structure RelF (J:Inj) (S:Sure) (a:Fr) (ra:Act):Prop where
 glob:GOk S
 size:ra.tmps.size=a.n
 val: ∀t,VR J S (a.get t) (ra.tmps.getD t undef)
def Owns(J:Inj)(H:Heap)(b:Nat):Prop:= ∃id L,H.has id∧J id=some L∧L.rb=b
structure RegAt (J:Inj) (S:Sure) (w:World) (L:Loc) (b:Blk):Prop where
 E:L.E=b.E
 cell: ∃cs t,w.heap[L.rb]?=some (.cells cs t (0,0))∧cs.size=L.sz∧
  ∀(i:Nat) (row:List IV) (o:Nat) (v:IV),b.rows[i]?=some row→row[o]?=some v→ ∃u,cs[L.ro+i*b.E+o]?=some u∧VR J S v u
 row: ∀(i:Nat) (row:List IV),b.rows[i]?=some row→row.length=b.E
 fit:L.ro+b.rows.length*b.E≤L.sz
structure MapAt (J:Inj) (S:Sure) (w:World) (L:Loc) (b:Blk):Prop where
 obj: ∃es clock,w.heap[L.rb]?=some (.map es clock)∧es.size=b.rows.length∧(∀(i j:Nat) (x y:MapEntry),es[i]?=some x→es[j]?=some y→i<j→x.born<y.born)∧
  ∀(i:Nat) (x:MapEntry),es[i]?=some x→x.born<clock∧ ∃k v,b.rows[i]?=some [k,v]∧VR J S k x.key∧VR J S v x.val
structure BlkAt (J:Inj) (S:Sure) (w:World) (L:Loc) (b:Blk):Prop where
 reg:L.mp=false→RegAt J S w L b
 mp:L.mp=true→MapAt J S w L b
def LSt.is:LSt→Loop→Prop
 | .ready,r=>r.state= .ready∧r.pending=none
 | .busy,r=>r.state= .busy
 | .done c,r=>r.state= .done∧r.pending=some c
structure LoopAt (J:Inj) (S:Sure) (w:World) (L:Loc) (s:LS):Prop where
 rec_: ∃r:Loop,w.heap[L.rb]?=some (.loop r)∧r.params=s.ps∧r.assign=s.asg∧r.body=s.body∧RelF J S s.fr {tmps:=r.tmps,defers:=[]}∧s.st.is r
structure RelH (J:Inj) (S:Sure) (H:Heap) (w:World):Prop where
 blk: ∀id b,H.get id=some b→ ∃L,J id=some L∧BlkAt J S w L b
 inj: ∀id id' L L',H.has id→H.has id'→J id=some L→J id'=some L'→L.rb=L'.rb→id=id'
 sure: ∀a v,S a v→kno w a=some v∧ ¬Owns J H a.blk
 next: ∀id L,J id=some L→id.g<H.next id.k
 lps: ∀id s,H.loop id=some s→ ∃L,J id=some L∧LoopAt J S w L s
structure Ext (J:Inj) (S:Sure) (H:Heap) (w:World) (J':Inj) (S':Sure) (H':Heap) (w':World):Prop where
 hJ: ∀id L,J id=some L→J' id=some L
 hS: ∀a v,S a v→S' a v
 snew: ∀a v,S' a v→S a v∨Owns J H a.blk∨w.heap.size≤a.blk
 own: ∀b,Owns J' H' b→Owns J H b∨w.heap.size≤b
 keep: ∀k,k<w.heap.size→ ¬Owns J H k→w'.heap[k]?=w.heap[k]?
 size:w.heap.size≤w'.heap.size
 os:w'.os=w.os
 tape:w'.tape=w.tape
 output:w'.output=w.output
 next: ∀k,H.next k≤H'.next k
 lp: ∀(k:Nat) (r:Loop),w.heap[k]?=some (.loop r)→ ∃r',w'.heap[k]?=some (.loop r')
theorem Ext.refl{J:Inj}{S:Sure}{H:Heap}{w:World}:Ext J S H w J S H w:=
 ⟨fun _ _ h=>h,fun _ _ h=>h,fun _ _ h=> .inl h,fun _ h=> .inl h,fun _ _ _=>rfl,Nat.le_refl _,rfl,rfl,rfl,fun _=>Nat.le_refl _,fun _ r h=>⟨r,h⟩⟩
theorem Ext.trans{J1 J2 J3:Inj}{S1 S2 S3:Sure}{H1 H2 H3:Heap}{w1 w2 w3:World}
  (h:Ext J1 S1 H1 w1 J2 S2 H2 w2) (k:Ext J2 S2 H2 w2 J3 S3 H3 w3):Ext J1 S1 H1 w1 J3 S3 H3 w3 where
 hJ:=fun id L e=>k.hJ id L (h.hJ id L e)
 hS:=fun a v e=>k.hS a v (h.hS a v e)
 snew:=fun a v e=>by
  rcases k.snew a v e with h1|h1|h1
  ·exact h.snew a v h1
  ·rcases h.own _ h1 with h2|h2
   ·exact .inr (.inl h2)
   ·exact .inr (.inr h2)
  ·exact .inr (.inr (Nat.le_trans h.size h1))
 own:=fun b e=>by
  rcases k.own b e with h1|h1
  ·exact h.own b h1
  ·exact .inr (Nat.le_trans h.size h1)
 keep:=fun b hb ho=>by
  rw[k.keep b (Nat.lt_of_lt_of_le hb h.size) (fun ho2=>by rcases h.own b ho2 with h2|h2;exact ho h2;omega),h.keep b hb ho]
 size:=Nat.le_trans h.size k.size
 os:=k.os.trans h.os
 tape:=k.tape.trans h.tape
 output:=k.output.trans h.output
 next:=fun n=>Nat.le_trans (h.next n) (k.next n)
 lp:=fun b r e=>by obtain⟨r',e'⟩:=h.lp b r e;exact k.lp b r' e'
def ofConst:Value→IV
 | .bool b=> .bool b
 | .int k n=> .int k n
 | .string s=> .str s
 | .pointer a=>match a with|none=> .nilp|some _=> .junk
 | .slice a n c=>match a with|some _=> .junk|none=>if n=0∧c=0 then .nils else .junk
 | .nilFunc=> .nilf
 | .nilIface=> .nili
 | .func f x y=>if x.size=0∧y.size=0 then .fn f [] [] else .junk
 |_=> .junk
theorem VR.ofConst(J:Inj)(S:Sure)(v:Value):VR J S (ofConst v) v:=by
 cases v<;>simp only[IL.ofConst]<;>try constructor
 case pointer a=>cases a<;>constructor
 case slice a n c=>
  cases a with
  |some _=>constructor
  |none=>
   by_cases h:n=0∧c=0
   ·obtain⟨rfl,rfl⟩:=h;simp only[and_self,if_true];constructor
   ·rw[if_neg h];constructor
 case func f x y=>
  by_cases h:x.size=0∧y.size=0
  ·rw[if_pos h];exact .fn (by simp[h.1]) (by simp[h.2]) (by simp) (by simp)
  ·rw[if_neg h];constructor
def Fr.ev(a:Fr):Operand→IV
 | .tmp t=>a.get t
 | .const v=>ofConst v
 | .global g=>match gtab g with|some rows=> .pim rows 0 0|none=> .junk
 | .func f=> .fn (.func f) [] []
theorem RelF.ev{J:Inj}{S:Sure}{a:Fr}{ra:Act}(h:RelF J S a ra)(x:Operand):VR J S (a.ev x) (ra.eval x):=by
 cases x with
 |tmp t=>exact h.val t
 |const v=>exact VR.ofConst J S v
 |global g=>
  show VR J S (match gtab g with|some rows=> .pim rows 0 0|none=> .junk) (.pointer (some ⟨g,0,none⟩))
  cases e:gtab g with
  |none=>exact .junk _
  |some rows=>
   obtain⟨E,f,h1,h2,h3⟩:=h.glob g rows e
   have:=VR.pim (J:=J) (i:=0) (o:=0) h1 h2 (h3 J)
   simpa [Addr.add] using this
 |func f=>exact .fn rfl rfl (by simp) (by simp)
theorem GOk.mono{S S':Sure}(h:GOk S)(hS: ∀a v,S a v→S' a v):GOk S':=fun g rows e=>by
 obtain⟨E,f,h1,h2,h3⟩:=h g rows e
 exact⟨E,f,h1,fun r row c v a b=>hS _ _ (h2 r row c v a b),fun J r row c v a b=>(h3 J r row c v a b).mono (fun _ _ h=>h) hS⟩
theorem RelF.mono{J J':Inj}{S S':Sure}{a:Fr}{ra:Act}(h:RelF J S a ra)(hJ: ∀id L,J id=some L→J' id=some L)(hS: ∀a v,S a v→S' a v):RelF J' S' a ra:=
 ⟨h.glob.mono hS,h.size,fun t=>(h.val t).mono hJ hS⟩
def Fr.has(a:Fr):Option Tmp→Bool
 |some d=>decide (d<a.n)
 |none=>true
theorem RelF.put{J:Inj}{S:Sure}{a:Fr}{ra:Act}(h:RelF J S a ra){d:Option Tmp}{v:IV}{u:Value}(hd:a.has d=true)(hv:VR J S v u):RelF J S (a.putO d v) (ra.put d u):=by
 cases d with
 |none=>exact h
 |some d=>
  have hd':d<ra.tmps.size:=by rw[h.size];simpa [Fr.has] using hd
  refine⟨h.glob,by simp[Act.put,Fr.putO,Fr.put,h.size],fun t=>?_⟩
  simp only[Fr.putO,Fr.put,Act.put]
  by_cases e:t=d
  ·subst e
   simp only[if_true]
   rw[show(ra.tmps.setIfInBounds t u).getD t undef=u by simp[Array.getD,hd']]
   exact hv
  ·rw[if_neg e,show(ra.tmps.setIfInBounds d u).getD t undef=ra.tmps.getD t undef by simp[Array.getElem?_setIfInBounds_ne (Ne.symm e)]]
   exact h.val t
end Go.Proofs.Ytoojnagdenoknaa.IL
