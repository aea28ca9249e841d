/- The ideal logic, part 6: operations that make or change memory. Nothing here speaks of a given program. -/
import Derived.Test.YtoojnagdenoknaaIL5
set_option linter.unusedSectionVars false
set_option linter.unnecessarySimpa false
set_option linter.unusedVariables false
set_option linter.unusedSimpArgs false
namespace Go.Proofs.Ytoojnagdenoknaa.IL
open Go Go.RowKit
inductive Eff where
 |none
 |put (id:Id) (b:Blk)
 |new (b:Blk)
 |move (id:Id) (b:Blk)
def Eff.app(e:Eff)(H:Heap)(k:Nat):Heap:=
 match e with
 | .none=>H
 | .put id b=>H.put id b
 | .new b=>H.new k b
 | .move id b=>(H.del id).new k b
def OutV(P:Program)(s:Sem Value)(J:Inj)(S:Sure)(H:Heap)(w:World)(v:IV)(H':Heap):Prop:=
 ∃u w' J',s.run P w= .ok u w'∧VR J' S v u∧RelH J' S H' w'∧Ext J S H w J' S H' w'
theorem OutV.quiet{P:Program}{s:Sem Value}{J:Inj}{S:Sure}{H:Heap}{w:World}{v:IV}(hH:RelH J S H w)(h: ∃r,s.run P w= .ok r w∧VR J S v r):OutV P s J S H w v H:=by
 obtain⟨r,h1,h2⟩:=h
 exact⟨r,w,J,h1,h2,hH,.refl⟩
theorem box_sound{P:Program}{t:TypeId}{x:IV}{cs:List IV}(hc:x.cells=some cs){J:Inj}{S:Sure}{H:Heap}{w:World}(hH:RelH J S H w){u:Value}(hx:VR J S x u)(k:Nat):
  OutV P (Instr.box t u) J S H w (.pb (H.fresh k) 0 0) (H.new k ⟨cs.length,[cs]⟩):=by
 obtain⟨hl,hV⟩:=hx.cells hc
 obtain⟨J',h1,h2,h3⟩:=rel_new hH k cs.length [cs] u.cells t (fun i row hi=>by
  cases i with
  |zero=>simp at hi;subst hi;rfl
  |succ i=>simp at hi) (by simp[hl]) (fun i row o v hi ho=>by
  cases i with
  |zero=>
   simp at hi;subst hi
   have ho':o<u.cells.size:=by rw[←hl];exact(List.getElem?_eq_some_iff.1 ho).1
   exact⟨u.cells[o],by simp[ho'],hV o v _ ho (by simp[ho'])⟩
  |succ i=>simp at hi)
 refine⟨.pointer (some ⟨w.heap.size,0,none⟩),_,J',?_,?_,h2,h3⟩
 ·simp[Instr.box,newVar,newRow]
 ·have:=VR.pb (S:=S) (i:=0) (o:=0) h1
  simpa using this
theorem ki{J:Inj}{S:Sure}{z:Value}{zs:List IV}(h:zs=z.cells.toList.map ofConst):zs.length=z.cells.size∧ ∀(k:Nat) (x:IV) (y:Value),zs[k]?=some x→z.cells[k]?=some y→VR J S x y:=by
 subst h
 refine⟨by simp,fun k x y hx hy=>?_⟩
 simp only[List.getElem?_map,Array.getElem?_toList,hy,Option.map_some,Option.some.injEq] at hx
 subst hx
 exact VR.ofConst J S y
theorem alloc_sound{P:Program}{t:TypeId}{C:TC}(hC:tc P t=some C){zs:List IV}(hz:C.zero=some zs){J:Inj}{S:Sure}{H:Heap}{w:World}(hH:RelH J S H w)(k:Nat):
  OutV P (Instr.alloc t true (.tuple #[])) J S H w (.pb (H.fresh k) 0 0) (H.new k ⟨zs.length,[zs]⟩):=by
 obtain⟨i,d,hinf,hu,hsz,hby,hag,hzero,hkd,hflat⟩:=zZ hC
 obtain⟨z,hz1,hz2⟩:=hzero zs hz
 obtain⟨hl,hV⟩:=ki (J:=J) (S:=S) hz2
 obtain⟨J',h1,h2,h3⟩:=rel_new hH k zs.length [zs] z.cells t (fun i row hi=>by
  cases i with
  |zero=>simp at hi;subst hi;rfl
  |succ i=>simp at hi) (by simp[hl]) (fun i row o v hi ho=>by
  cases i with
  |zero=>
   simp at hi;subst hi
   have ho':o<z.cells.size:=by rw[←hl];exact(List.getElem?_eq_some_iff.1 ho).1
   exact⟨z.cells[o],by simp[ho'],hV o v _ ho (by simp[ho'])⟩
  |succ i=>simp at hi)
 refine⟨.pointer (some ⟨w.heap.size,0,none⟩),_,J',?_,?_,h2,h3⟩
 ·simp[Instr.alloc,zeroValue,typeInfo,hinf,hz1,newVar,newRow]
 ·have:=VR.pb (S:=S) (i:=0) (o:=0) h1
  simpa using this
def splice(cs:List IV)(off:Nat)(xs:List IV):List IV:=cs.take off++xs++cs.drop (off+xs.length)
theorem splice_get{cs xs:List IV}{off:Nat}(h:off+xs.length≤cs.length)(k:Nat):(splice cs off xs)[k]?=if off≤k∧k<off+xs.length then xs[k-off]? else cs[k]?:=by
 unfold splice
 rw[List.append_assoc]
 by_cases h1:k<off
 ·rw[List.getElem?_append_left (by simp;omega),List.getElem?_take,if_pos h1,if_neg (by omega)]
 ·have e:(List.take off cs).length=off:=by simp;omega
  rw[List.getElem?_append_right (by omega),e]
  by_cases h2:k<off+xs.length
  ·rw[List.getElem?_append_left (by omega),if_pos (by omega)]
  ·rw[List.getElem?_append_right (by omega),if_neg (by omega),List.getElem?_drop]
   congr 1;omega
theorem zzS{cs xs:List IV}{off:Nat}(h:off+xs.length≤cs.length):(splice cs off xs).length=cs.length:=by
 unfold splice;simp;omega
theorem zzZ(cs:Array Value)(p:Nat)(vs:List Value)(h:p+vs.length≤cs.size)(k:Nat):
  ((cs.toList.take p++vs++cs.toList.drop (p+vs.length)).toArray)[k]?=if p≤k∧k<p+vs.length then vs[k-p]? else cs[k]?:=by
 rw[List.getElem?_toArray,List.append_assoc]
 by_cases h1:k<p
 ·rw[List.getElem?_append_left (by simp;omega),List.getElem?_take,if_pos h1,if_neg (by omega)];simp
 ·have e:(List.take p cs.toList).length=p:=by simp;omega
  rw[List.getElem?_append_right (by omega),e]
  by_cases h2:k<p+vs.length
  ·rw[List.getElem?_append_left (by omega),if_pos (by omega)]
  ·rw[List.getElem?_append_right (by omega),if_neg (by omega),List.getElem?_drop]
   rw[Array.getElem?_toList]
   congr 1;omega
theorem kD(cs:Array Value)(p:Nat)(vs:List Value)(h:p+vs.length≤cs.size):((cs.toList.take p++vs++cs.toList.drop (p+vs.length)).toArray).size=cs.size:=by
 simp;omega
theorem kZ(off:Nat): ∀(vs:List Value) (j:Nat) (cells:Array Value) (k:Nat),off+j+vs.length≤cells.size→
  ((vs.zipIdx j).foldl (fun cs (p:Value×Nat)=>cs.setIfInBounds (off+p.2) p.1) cells)[k]?=if off+j≤k∧k<off+j+vs.length then vs[k-(off+j)]? else cells[k]?
 |[],j,cells,k,h=>by simp;omega
 |v::vs,j,cells,k,h=>by
  simp only[List.length_cons] at h
  simp only[List.zipIdx_cons,List.foldl_cons]
  rw[kZ off vs (j+1) (cells.setIfInBounds (off+j) v) k (by simp;omega)]
  simp only[List.length_cons]
  by_cases h1:k=off+j
  ·subst h1
   rw[if_neg (by omega),if_pos (by omega)]
   simp[show off+j<cells.size by omega]
  ·by_cases h2:off+j≤k∧k<off+j+(vs.length+1)
   ·rw[if_pos (by omega),if_pos h2,show k-(off+j)=(k-(off+(j+1)))+1 by omega]
    simp
   ·rw[if_neg (by omega),if_neg h2,Array.getElem?_setIfInBounds_ne (by omega)]
theorem kS(off:Nat): ∀(vs:List Value) (j:Nat) (cells:Array Value),((vs.zipIdx j).foldl (fun cs (p:Value×Nat)=>cs.setIfInBounds (off+p.2) p.1) cells).size=cells.size
 |[],j,cells=>by simp
 |v::vs,j,cells=>by
  simp only[List.zipIdx_cons,List.foldl_cons]
  rw[kS off vs (j+1)]
  simp
def ifill(place:Nat→Option (Nat×Nat))(cells:List IV):List (Nat×IV)→Option (List IV)
 |[]=>some cells
 |(i,v)::rest=>match place i,v.cells with
  |some (off,sz),some cs=>if cs.length=sz∧off+cs.length≤cells.length then ifill place (splice cells off cs) rest else none
  |_,_=>none
theorem zzg{J:Inj}{S:Sure}(place:Nat→Option (Nat×Nat)): ∀(parts:List (Nat×IV)) (parts':List (Nat×Value)) (cells:List IV) (us:Array Value) (out:List IV),
  parts.length=parts'.length→(∀(k i:Nat) (v:IV) (i':Nat) (u:Value),parts[k]?=some (i,v)→parts'[k]?=some (i',u)→i=i'∧VR J S v u)→VRs J S cells us→ifill place cells parts=some out→ ∃us',Instr.fill place us parts'=some us'∧VRs J S out us'
 |[],[],cells,us,out,_,_,hc,h=>by
  simp only[ifill,Option.some.injEq] at h
  subst h
  exact⟨us,rfl,hc⟩
 |[],_::_,_,_,_,hl,_,_,_=>by simp at hl
 |_::_,[],_,_,_,hl,_,_,_=>by simp at hl
 |(i,v)::rest,(i',u)::rest',cells,us,out,hl,hp,hc,h=>by
  obtain⟨rfl,hv⟩:=hp 0 i v i' u rfl rfl
  simp only[ifill] at h
  split at h
  ·rename_i off sz cs hpl hcs
   split at h
   ·rename_i hle
    obtain⟨e1,e2⟩:=hv.cells hcs
    have hsz:us.size=cells.length:=hc.1.symm
    have hstep:VRs J S (splice cells off cs) (u.cells.zipIdx.foldl (fun cs (p:Value×Nat)=>cs.setIfInBounds (off+p.2) p.1) us):=by
     rw[←Array.foldl_toList,Array.toList_zipIdx]
     refine⟨by rw[zzS hle.2,kS,hsz],fun k x y hx hy=>?_⟩
     rw[kZ off _ 0 us k (by simp;omega)] at hy
     rw[splice_get hle.2] at hx
     simp only[Nat.add_zero,Array.length_toList,←e1] at hy
     split at hx
     ·rename_i hk
      rw[if_pos hk] at hy
      exact e2 _ x y hx (by simpa using hy)
     ·rename_i hk
      rw[if_neg hk] at hy
      exact hc.2 k x y hx hy
    obtain⟨us',f1,f2⟩:=zzg place rest rest' _ _ out (by simpa using hl) (fun k a b c d ha hb=>hp (k+1) a b c d (by simpa using ha) (by simpa using hb)) hstep h
    refine⟨us',?_,f2⟩
    simp only[Instr.fill,hpl]
    rw[if_neg (by simp;omega)]
    exact f1
   ·cases h
  ·cases h
def ibuild(P:Program)(t:TypeId)(parts:List (Nat×IV)):Option IV:=
 match tc P t with
 |none=>none
 |some C=>match C.zero with
  |none=>none
  |some zs=>match C.kd with
   | .struct fs=>match ifill (fun i=>(fs[i]?).map fun f=>(f.1,f.2.1)) zs parts with
    |some out=>some (.agg out)
    |none=>none
   | .array _ e=>match tc P e with
    |none=>none
    |some D=>match ifill (fun i=>some (i*D.size,D.size)) zs parts with
     |some out=>some (.agg out)
     |none=>none
   |_=>none
theorem parts_rel{J:Inj}{S:Sure}{a:Fr}{ra:Act}(hF:RelF J S a ra)(parts:Array (Nat×Operand)):
  (parts.toList.map fun p=>(p.1,a.ev p.2)).length=(parts.map fun(i,x)=>(i,ra.eval x)).toList.length∧
  ∀(k i:Nat) (v:IV) (i':Nat) (u:Value),(parts.toList.map fun p=>(p.1,a.ev p.2))[k]?=some (i,v)→(parts.map fun(i,x)=>(i,ra.eval x)).toList[k]?=some (i',u)→i=i'∧VR J S v u:=by
 refine⟨by simp,fun k i v i' u h1 h2=>?_⟩
 simp only[List.getElem?_map,Option.map_eq_some_iff,Array.toList_map] at h1 h2
 obtain⟨⟨p1,p2⟩,hp,he⟩:=h1
 obtain⟨⟨q1,q2⟩,hq,he'⟩:=h2
 rw[hp] at hq
 cases hq;cases he;cases he'
 exact⟨rfl,hF.ev p2⟩
theorem mapM_places{P:Program}(w:World): ∀(fs:List Field),(∀f∈fs,(P.info? f.type).isSome=true)→
  (fs.mapM fun f=>(do pure (f.offset,←sizeOf f.type):Sem (Nat×Nat))).run P w= .ok (fs.map fun f=>(f.offset,szOf P f.type)) w
 |[],_=>rfl
 |f::fs,h=>by
  have ih:=mapM_places w fs (fun g hg=>h g (by simp[hg]))
  have h1:=yF (P:=P) (h f (by simp)) w
  rw[List.mapM_cons]
  simp only[Sem.run_bind,h1,Result.andThen_ok,Sem.run_pure,ih,List.map_cons]
def fieldsKnown(P:Program)(t:TypeId):Bool:=match P.underlying t with|some (.struct fs)=>fs.toList.all fun f=>(P.info? f.type).isSome|_=>true
theorem build_sound{P:Program}{t:TypeId}{parts:Array (Nat×Operand)}{J:Inj}{S:Sure}{a:Fr}{ra:Act}(hF:RelF J S a ra){v:IV}(h:ibuild P t (parts.toList.map fun p=>(p.1,a.ev p.2))=some v)(hk:fieldsKnown P t=true)(w:World):
  ∃r,(Instr.build t (parts.map fun(i,x)=>(i,ra.eval x))).run P w= .ok r w∧VR J S v r:=by
 unfold ibuild at h
 split at h
 ·cases h
 ·rename_i C hC
  obtain⟨i,d,hinf,hu,hsz,hby,hag,hzero,hkd,hflat⟩:=zZ hC
  split at h
  ·cases h
  ·rename_i zs hz
   obtain⟨z,hz1,hz2⟩:=hzero zs hz
   have hzr:=ki (J:=J) (S:=S) hz2
   obtain⟨p1,p2⟩:=parts_rel hF parts
   split at h
   ·rename_i fs hkd'
    rw[hkd'] at hkd
    obtain⟨fl,rfl,rfl⟩:=kd_struct hkd
    split at h
    ·rename_i out hout
     cases h
     obtain⟨us',f1,f2⟩:=zzg _ _ _ zs z.cells out p1 p2 hzr hout
     refine⟨.agg us',?_,.agg f2.1 f2.2⟩
     have hm:(fl.mapM fun f=>(do pure (f.offset,←sizeOf f.type):Sem (Nat×Nat))).run P w= .ok (fl.map fun f=>(f.offset,szOf P f.type)) w:=by
      have:=mapM_places (P:=P) w fl.toList (by
       have hk':=hk
       simp only[fieldsKnown,hu] at hk'
       exact List.all_eq_true.1 hk')
      rw[Array.mapM_eq_mapM_toList]
      rw[Sem.run_map,this]
      simp only[Result.andThen_ok]
      rw[←Array.toList_map]
     have hpl:(fun i=>((fl.toList.map fun f=>(f.offset,szOf P f.type,aggOf P f.type))[i]?).map fun(f:Nat×Nat×Bool)=>(f.1,f.2.1))=(fun i:Nat=>(fl.map fun f=>(f.offset,szOf P f.type))[i]?):=by
      funext i
      simp[Option.map_map,Function.comp_def]
     rw[hpl] at f1
     simp only[Instr.build,Sem.run_bind,zeroValue,typeInfo,run_program,hinf,Result.andThen_ok,Sem.run_pure,hz1,run_underlying hu,hm,f1]
    ·cases h
   ·rename_i n e hkd'
    rw[hkd'] at hkd
    have:=kd_array hkd;subst this
    split at h
    ·cases h
    ·rename_i D hD
     obtain⟨i',d',hinf',hu',hsz',hby',hag',hzero',hkd'',hflat'⟩:=zZ hD
     split at h
     ·rename_i out hout
      cases h
      obtain⟨us',f1,f2⟩:=zzg _ _ _ zs z.cells out p1 p2 hzr hout
      refine⟨.agg us',?_,.agg f2.1 f2.2⟩
      have hs:(sizeOf e).run P w= .ok D.size w:=by rw[yF (zw hu')];simp[szOf,hinf',hsz']
      simp only[Instr.build,Sem.run_bind,zeroValue,typeInfo,run_program,hinf,Result.andThen_ok,Sem.run_pure,hz1,run_underlying hu,hs,f1]
     ·cases h
   ·cases h
end Go.Proofs.Ytoojnagdenoknaa.IL
