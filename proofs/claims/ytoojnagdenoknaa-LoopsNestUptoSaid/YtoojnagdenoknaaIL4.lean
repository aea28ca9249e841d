/- The ideal logic, part 4: operations that read and change nothing. Nothing here speaks of a given program. -/
import Derived.Test.YtoojnagdenoknaaIL3
import Derived.Laws.Slices
set_option linter.unusedSectionVars false
set_option linter.unnecessarySimpa false
set_option linter.unusedVariables false
set_option linter.unusedSimpArgs false
namespace Go.Proofs.Ytoojnagdenoknaa.IL
open Go Go.RowKit
def iun(op:UnOp)(x:IV):Option IV:=
 match op,x with
 | .not,.bool b=>some (.bool !b)
 | .neg,.int k n=>some (.int k (k.wrap (0-n)))
 | .xor,.int k n=>some (.int k (k.wrap (BitVec.ofInt k.bits (if k.signed then-1 else k.max) ^^^ BitVec.ofInt k.bits n).toNat))
 |_,_=>none
theorem un_sound{P:Program}{op:UnOp}{x v:IV}(h:iun op x=some v){J:Inj}{S:Sure}{u:Value}(hx:VR J S x u)(w:World): ∃r,(Op.unary op u).run P w= .ok r w∧VR J S v r:=by
 unfold iun at h
 split at h
 ·cases h;cases hx;exact⟨_,rfl,.bool _⟩
 ·cases h;cases hx;exact⟨_,rfl,.int _ _⟩
 ·cases h;cases hx;exact⟨_,rfl,.int _ _⟩
 ·cases h
def iconv(P:Program)(src dst:TypeId)(x:IV):Option IV:=
 match tc P src,tc P dst,x with
 |some _,some D,.int _ n=>match D.kd with| .int k=>some (.int k (k.wrap n))|_=>none
 |some C,some D,.str s=>match C.kd,D.kd with| .string,.string=>some (.str s)|_,_=>none
 |_,_,_=>none
theorem conv_sound{P:Program}{src dst:TypeId}{x v:IV}(h:iconv P src dst x=some v){J:Inj}{S:Sure}{u:Value}(hx:VR J S x u)(w:World): ∃r,(convert src dst u).run P w= .ok r w∧VR J S v r:=by
 unfold iconv at h
 split at h
 ·rename_i C D k n hC hD
  split at h
  ·rename_i k' hk
   cases h;cases hx
   obtain⟨i,d,hinf,hu,hsz,hby,hag,hzero,hkd,hflat⟩:=zZ hC
   obtain⟨i',d',hinf',hu',hsz',hby',hag',hzero',hkd',hflat'⟩:=zZ hD
   rw[hk] at hkd'
   have:=kd_int hkd';subst this
   exact⟨_,by simp[convert,run_underlying hu,run_underlying hu',Conv.intToInt],.int _ _⟩
  ·cases h
 ·rename_i C D s hC hD
  split at h
  ·rename_i hk hk'
   cases h;cases hx
   obtain⟨i,d,hinf,hu,hsz,hby,hag,hzero,hkd,hflat⟩:=zZ hC
   obtain⟨i',d',hinf',hu',hsz',hby',hag',hzero',hkd',hflat'⟩:=zZ hD
   rw[hk] at hkd;rw[hk'] at hkd'
   have:=kM hkd;subst this
   have:=kM hkd';subst this
   exact⟨_,by simp[convert,run_underlying hu,run_underlying hu'],.str _⟩
  ·cases h
 ·cases h
def ilen(P:Program)(t:TypeId)(x:IV):Option IV:=
 match tc P t with
 |none=>none
 |some C=>match C.kd,x with
  | .string,.str s=>some (.int .i64 s.size)
  | .slice _,.nils=>some (.int .i64 0)
  | .slice _,.sb _ _ n _=>some (.int .i64 n)
  | .slice _,.sim rows _=>some (.int .i64 rows.length)
  | .array n _,_=>some (.int .i64 n)
  |_,_=>none
theorem len_sound{P:Program}{t ty:TypeId}{x v:IV}(h:ilen P t x=some v){J:Inj}{S:Sure}{u:Value}(hx:VR J S x u)(w:World): ∃r,(Builtin.len_ #[t] ty #[u]).run P w= .ok r w∧VR J S v r:=by
 unfold ilen at h
 split at h
 ·cases h
 ·rename_i C hC
  obtain⟨i,d,hinf,hu,hsz,hby,hag,hzero,hkd,hflat⟩:=zZ hC
  split at h
  ·rename_i hk;rw[hk] at hkd;have:=kM hkd;subst this
   cases h;cases hx
   exact⟨_,by simp[Builtin.len_,run_underlying hu];rfl,.int _ _⟩
  ·rename_i hk;rw[hk] at hkd;have:=yK hkd;subst this
   cases h;cases hx
   exact⟨_,by simp[Builtin.len_,run_underlying hu];rfl,.int _ _⟩
  ·rename_i hk;rw[hk] at hkd;have:=yK hkd;subst this
   cases h;cases hx
   exact⟨_,by simp[Builtin.len_,run_underlying hu];rfl,.int _ _⟩
  ·rename_i hk;rw[hk] at hkd;have:=yK hkd;subst this
   cases h;cases hx
   ·exact⟨_,by simp[Builtin.len_,run_underlying hu];rfl,.int _ _⟩
   ·exact⟨_,by simp[Builtin.len_,run_underlying hu];rfl,.int _ _⟩
  ·rename_i hk;rw[hk] at hkd;have:=kd_array hkd;subst this
   cases h
   exact⟨_,by simp[Builtin.len_,run_underlying hu];rfl,.int _ _⟩
  ·cases h
def iext(x:IV)(n:Nat):Option IV:=match x with| .tup vs=>vs[n]?|_=>none
theorem ext_sound{P:Program}{x v:IV}{n:Nat}(h:iext x n=some v){J:Inj}{S:Sure}{u:Value}(hx:VR J S x u)(w:World): ∃r,(Instr.extract u n).run P w= .ok r w∧VR J S v r:=by
 cases hx<;>simp only[iext] at h<;>try cases h
 rename_i vs us hl hV
 have hn:n<us.size:=by rw[←hl];exact(List.getElem?_eq_some_iff.1 h).1
 exact⟨us[n],by simp[Instr.extract,hn],hV n v us[n] h (by simp[hn])⟩
def ipart(ag:Bool)(sz off:Nat)(cs:List IV):Option IV:=if ag then(if off+sz≤cs.length then some (.agg ((cs.drop off).take sz)) else none) else cs[off]?
theorem part_sound{P:Program}{t:TypeId}{d:TypeDesc}(hu:P.underlying t=some d){cs:List IV}{us:Array Value}{off:Nat}{v:IV}(h:ipart (aggD d) (szOf P t) off cs=some v){J:Inj}{S:Sure}(hl:cs.length=us.size)
  (hV: ∀(k:Nat) (v:IV) (u:Value),cs[k]?=some v→us[k]?=some u→VR J S v u) (w:World): ∃r,(part t us off).run P w= .ok r w∧VR J S v r:=by
 unfold ipart at h
 split at h
 ·rename_i ha
  split at h
  ·rename_i hle
   cases h
   refine⟨.agg (us.extract off (off+szOf P t)),by simp only[part,Sem.run_bind,ym hu,ha,Result.andThen_ok,if_true,yF (zw hu),Sem.run_pure],.agg ?_ ?_⟩
   ·simp;omega
   ·intro k v u hk hk'
    rw[List.getElem?_take] at hk
    split at hk
    ·rename_i hlt
     rw[List.getElem?_drop] at hk
     rw[Array.getElem?_extract] at hk'
     split at hk'
     ·exact hV _ v u hk hk'
     ·cases hk'
    ·cases hk
  ·cases h
 ·rename_i ha
  have hn:off<us.size:=by rw[←hl];exact(List.getElem?_eq_some_iff.1 h).1
  exact⟨us[off],by simp[part,ym hu,ha,hn],hV off v us[off] h (by simp[hn])⟩
def iload(P:Program)(H:Heap)(t:TypeId)(p:IV):Option IV:=
 match tc P t,rowOf H p with
 |some C,some (row,o)=>ipart C.agg C.size o row
 |_,_=>none
theorem load_sound{P:Program}{H:Heap}{t:TypeId}{p v:IV}(h:iload P H t p=some v){J:Inj}{S:Sure}{w:World}(hH:RelH J S H w){u:Value}(hp:VR J S p u): ∃r,(Instr.loadAt t u).run P w= .ok r w∧VR J S v r:=by
 unfold iload at h
 split at h
 ·rename_i C row o hC hr
  obtain⟨i,d,hinf,hu,hsz,hby,hag,hzero,hkd,hflat⟩:=zZ hC
  obtain⟨ad,rfl,hc⟩:=row_read hH hp hr
  have hs:szOf P t=C.size:=by simp[szOf,hinf,hsz]
  unfold ipart at h
  split at h
  ·rename_i ha
   split at h
   ·rename_i hle
    cases h
    have hx: ∀k,k<C.size→ ∃x,w.cell? (ad.add k)=some x∧ ∀v,row[o+k]?=some v→VR J S v x:=by
     intro k hk
     obtain⟨x,hx,hv⟩:=hc k row[o+k] (by simp)
     exact⟨x,hx,fun v hv'=>by rw[List.getElem?_eq_getElem (by omega)] at hv';cases hv';exact hv⟩
    have hf:=run_loadCells (P:=P) w ad C.size (fun k=>(w.cell? (ad.add k)).getD undef) (fun k hk=>by obtain⟨x,hx,_⟩:=hx k hk;rw[hx];rfl)
    refine⟨.agg ((List.range C.size).map fun k=>(w.cell? (ad.add k)).getD undef).toArray,?_,.agg (by simp;omega) ?_⟩
    ·simp only[Instr.loadAt,Instr.sureAddr,Sem.run_bind,Sem.run_pure,Result.andThen_ok,loadVar,ym hu,hag,ha,if_true,yF (zw hu),hs,hf]
    ·intro k v u hk hk'
     rw[List.getElem?_take] at hk
     split at hk
     ·rename_i hlt
      rw[List.getElem?_drop] at hk
      obtain⟨x,hx,hv⟩:=hx k hlt
      simp[hlt,hx] at hk'
      subst hk'
      exact hv v hk
     ·cases hk
   ·cases h
  ·rename_i ha
   obtain⟨x,hx,hv⟩:=hc 0 v (by simpa using h)
   have h0:ad.add 0=ad:=by simp[Addr.add]
   rw[h0] at hx
   refine⟨x,?_,hv⟩
   simp only[Instr.loadAt,Instr.sureAddr,Sem.run_bind,Sem.run_pure,Result.andThen_ok,loadVar,ym hu,hag,ha,Bool.false_eq_true,if_false,run_load,hx]
 ·cases h
def ifaddr(P:Program)(t:TypeId)(p:IV)(f:Nat):Option IV:=
 match tc P t with
 |none=>none
 |some C=>match C.kd with
  | .struct fs=>match fs[f]? with
   |some (off,sz,_)=>if sz=0 then none else match p with
    | .pb id i o=>some (.pb id i (o+off))
    | .pim rows i o=>some (.pim rows i (o+off))
    |_=>none
   |none=>none
  |_=>none
theorem faddr_sound{P:Program}{t:TypeId}{p v:IV}{f:Nat}(h:ifaddr P t p f=some v){J:Inj}{S:Sure}{u:Value}(hp:VR J S p u)(w:World): ∃r,(Instr.fieldAt t u f).run P w= .ok r w∧VR J S v r:=by
 unfold ifaddr at h
 split at h
 ·cases h
 ·rename_i C hC
  obtain⟨i,d,hinf,hu,hsz,hby,hag,hzero,hkd,hflat⟩:=zZ hC
  split at h
  ·rename_i fs hk
   rw[hk] at hkd
   obtain⟨fl,rfl,rfl⟩:=kd_struct hkd
   split at h
   ·rename_i off sz ag hf
    split at h
    ·cases h
    ·rename_i hsz0
     simp only[List.getElem?_map,Option.map_eq_some_iff] at hf
     obtain⟨fd,hfd,he⟩:=hf
     cases he
     have hfd':fl[f]?=some fd:=by simpa using hfd
     have hinfo:(P.info? fd.type).isSome=true:=by
      cases hi:P.info? fd.type with
      |none=>simp[szOf,hi] at hsz0
      |some _=>rfl
     have main: ∀ad:Addr,(Instr.fieldAt t (.pointer (some ad)) f).run P w= .ok (.pointer (some (ad.add fd.offset))) w:=by
      intro ad
      simp only[Instr.fieldAt,Sem.run_bind,run_underlying hu,Result.andThen_ok,hfd',Instr.sureAddr,Sem.run_pure,fieldPlace,yF hinfo,if_neg hsz0]
     split at h
     ·cases h
      cases hp with
      |pb hL hm=>
       refine⟨_,main _,?_⟩
       rw[yO,Nat.add_assoc]
       exact .pb hL
     ·cases h
      cases hp with
      |pim hE hS hV=>
       refine⟨_,main _,?_⟩
       rw[zzQ,Nat.add_assoc]
       exact .pim hE hS hV
     ·cases h
   ·cases h
  ·cases h
def iiaddr(P:Program)(H:Heap)(t:TypeId)(x:IV)(ix:IV):Option IV:=
 match tc P t,ix with
 |some C,.int _ j=>match C.kd with
  | .slice e=>match tc P e with
   |none=>none
   |some D=>match x with
    | .sb id i n _=>match H.get id with
     |some b=>if 0≤j∧j<n∧b.E=D.size then some (.pb id (i+j.toNat) 0) else none
     |none=>none
    | .sim rows _=>if 0≤j∧j<rows.length then(if(rows.getD j.toNat []).length=D.size then some (.pim rows j.toNat 0) else none) else none
    |_=>none
  | .array n e=>match tc P e with
   |none=>none
   |some D=>if 0≤j∧j<n then match x with
    | .pb id i o=>some (.pb id i (o+j.toNat*D.size))
    | .pim rows i o=>some (.pim rows i (o+j.toNat*D.size))
    |_=>none else none
  |_=>none
 |_,_=>none
theorem iaddr_sound{P:Program}{H:Heap}{t:TypeId}{x ix v:IV}(h:iiaddr P H t x ix=some v){J:Inj}{S:Sure}{w:World}(hH:RelH J S H w){u u':Value}(hx:VR J S x u)(hi:VR J S ix u'): ∃r,(Instr.indexAt t u u').run P w= .ok r w∧VR J S v r:=by
 unfold iiaddr at h
 split at h
 ·rename_i C k j hC
  cases hi
  obtain⟨i,d,hinf,hu,hsz,hby,hag,hzero,hkd,hflat⟩:=zZ hC
  split at h
  ·rename_i e hk
   rw[hk] at hkd;have:=yK hkd;subst this
   split at h
   ·cases h
   ·rename_i D hD
    obtain⟨i',d',hinf',hu',hsz',hby',hag',hzero',hkd',hflat'⟩:=zZ hD
    have hs:szOf P e=D.size:=by simp[szOf,hinf',hsz']
    have main: ∀(a:Addr) (len c:Nat),0≤j→j<len→(Instr.indexAt t (.slice (some a) len c) (.int k j)).run P w= .ok (.pointer (some (a.add (j.toNat*D.size)))) w:=by
     intro a len c h0 h1
     have hs':=yF (P:=P) (zw hu') w
     simp[Instr.indexAt,run_underlying hu,asIntOf,h0,h1,hs',hs]
    split at h
    ·rename_i id i0 n full
     split at h
     ·rename_i b hb
      split at h
      ·rename_i hj
       cases h
       cases hx with
       |sb hL hc hz hf hm=>
        rename_i L c ad
        obtain⟨hz1,hz2⟩:=hz (by omega)
        subst hz1
        obtain⟨L',hL',hat⟩:=hH.blk id b hb
        rw[hL] at hL';cases hL'
        replace hat:=hat.reg hm
        refine⟨_,main _ _ _ hj.1 hj.2.1,?_⟩
        rw[yO,←hj.2.2,←hat.E,show L.ro+i0*L.E+j.toNat*L.E=L.ro+(i0+j.toNat)*L.E+0 by rw[Nat.add_mul];omega]
        exact .pb hL
      ·cases h
     ·cases h
    ·rename_i rows full
     split at h
     ·rename_i hj
      split at h
      ·rename_i hE
       cases h
       cases hx with
       |sim hE' hS hV hc hf=>
        rename_i c E base f
        refine⟨_,main _ _ _ hj.1 hj.2,?_⟩
        have hlt:j.toNat<rows.length:=by omega
        have he:E=D.size:=by
         rw[←hE,←hE' j.toNat rows[j.toNat] (by simp[hlt])]
         simp[List.getD,hlt]
        rw[←he,show j.toNat*E=j.toNat*E+0 by omega]
        exact .pim hE' hS hV
       |simnil=>simp at hj;omega
      ·cases h
     ·cases h
    ·cases h
  ·rename_i n e hk
   rw[hk] at hkd;have:=kd_array hkd;subst this
   split at h
   ·cases h
   ·rename_i D hD
    obtain⟨i',d',hinf',hu',hsz',hby',hag',hzero',hkd',hflat'⟩:=zZ hD
    have hs:szOf P e=D.size:=by simp[szOf,hinf',hsz']
    split at h
    ·rename_i hj
     have main: ∀(a:Addr),(Instr.indexAt t (.pointer (some a)) (.int k j)).run P w= .ok (.pointer (some (a.add (j.toNat*D.size)))) w:=by
      intro a
      have hs':=yF (P:=P) (zw hu') w
      simp[Instr.indexAt,run_underlying hu,asIntOf,hj.1,hj.2,hs',hs,Instr.sureAddr]
     split at h
     ·cases h
      cases hx with
      |pb hL hm=>
       refine⟨_,main _,?_⟩
       rw[yO,Nat.add_assoc]
       exact .pb hL
     ·cases h
      cases hx with
      |pim hE hS hV=>
       refine⟨_,main _,?_⟩
       rw[zzQ,Nat.add_assoc]
       exact .pim hE hS hV
     ·cases h
    ·cases h
  ·cases h
 ·cases h
def iindex(P:Program)(t:TypeId)(x:IV)(ix:IV):Option IV:=
 match tc P t,ix with
 |some C,.int _ j=>match C.kd,x with
  | .string,.str s=>if 0≤j then match s.data[j.toNat]? with|some b=>some (.int .u8 b.toNat)|none=>none else none
  | .array n e,.agg cs=>match tc P e with
   |none=>none
   |some D=>if 0≤j∧j<n then ipart D.agg D.size (j.toNat*D.size) cs else none
  |_,_=>none
 |_,_=>none
theorem index_sound{P:Program}{t:TypeId}{x ix v:IV}(h:iindex P t x ix=some v){J:Inj}{S:Sure}{u u':Value}(hx:VR J S x u)(hi:VR J S ix u')(w:World): ∃r,(Instr.index t u u').run P w= .ok r w∧VR J S v r:=by
 unfold iindex at h
 split at h
 ·rename_i C k j hC
  cases hi
  obtain⟨i,d,hinf,hu,hsz,hby,hag,hzero,hkd,hflat⟩:=zZ hC
  split at h
  ·rename_i s hk
   rw[hk] at hkd;have:=kM hkd;subst this
   cases hx
   split at h
   ·rename_i h0
    split at h
    ·rename_i b hb
     cases h
     have hb':s[j.toNat]?=some b:=by
      have hlt:j.toNat<s.size:=(Array.getElem?_eq_some_iff.1 hb).1
      rw[getElem?_pos s j.toNat hlt]
      have:=Array.getElem?_eq_some_iff.1 hb
      obtain⟨h1,h2⟩:=this
      exact congrArg some h2
     exact⟨.int .u8 b.toNat,by simp[Instr.index,run_underlying hu,asIntOf,h0,hb'],.int _ _⟩
    ·cases h
   ·cases h
  ·rename_i n e cs hk
   rw[hk] at hkd;have:=kd_array hkd;subst this
   split at h
   ·cases h
   ·rename_i D hD
    obtain⟨i',d',hinf',hu',hsz',hby',hag',hzero',hkd',hflat'⟩:=zZ hD
    have hs:szOf P e=D.size:=by simp[szOf,hinf',hsz']
    split at h
    ·rename_i hj
     cases hx with
     |agg hl hV=>
      rw[←hag',←hs] at h
      obtain⟨r,h1,h2⟩:=part_sound hu' h hl hV w
      have hs':=yF (P:=P) (zw hu') w
      exact⟨r,by simp[Instr.index,run_underlying hu,asIntOf,hj.1,hj.2,hs',h1],h2⟩
    ·cases h
  ·cases h
 ·cases h
end Go.Proofs.Ytoojnagdenoknaa.IL
