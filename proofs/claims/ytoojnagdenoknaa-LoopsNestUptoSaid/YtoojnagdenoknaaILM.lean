/- The ideal logic: maps whose keys are integers. Nothing here speaks of a given program. -/
import Derived.Test.YtoojnagdenoknaaIL8
import Derived.MapKept
import Derived.RangeFuncRecord
set_option linter.unusedSectionVars false
set_option linter.unnecessarySimpa false
set_option linter.unusedVariables false
set_option linter.unusedSimpArgs false
namespace Go.Proofs.Ytoojnagdenoknaa.IL
open Go Go.RowKit
def ikey:IV→IV→Option Bool
 | .int k a,.int k' b=>if k=k' then some (a==b) else none
 |_,_=>none
def ifind(k:IV):List (List IV)→Nat→Option (Option (Nat×IV))
 |[],_=>some none
 |[k',v]::rs,i=>match ikey k k' with
  |some true=>some (some (i,v))
  |some false=>ifind k rs (i+1)
  |none=>none
 |_,_=>none
theorem ikey_sound{J:Inj}{S:Sure}{k k':IV}{u u':Value}{b:Bool}{kk:IntKind}(h:ikey k k'=some b)(hk:VR J S k u)(hk':VR J S k' u'):Instr.sameNow (.int kk) u u'=some b∧(b=true→ ∃q a,u= .int q a∧u'= .int q a):=by
 unfold ikey at h
 split at h
 ·rename_i q a q' a'
  split at h
  ·rename_i e
   cases h;cases hk;cases hk'
   subst e
   refine⟨by simp[Instr.sameNow],fun t=>⟨q,a,rfl,?_⟩⟩
   rw[beq_iff_eq] at t
   rw[t]
  ·cases h
 ·cases h
def Ents(J:Inj)(S:Sure)(rows:List (List IV))(es:List MapEntry):Prop:=rows.length=es.length∧ ∀(i:Nat) (x:MapEntry),es[i]?=some x→ ∃k v,rows[i]?=some [k,v]∧VR J S k x.key∧VR J S v x.val
theorem Ents.tail{J:Inj}{S:Sure}{r:List IV}{rows:List (List IV)}{e:MapEntry}{es:List MapEntry}(h:Ents J S (r::rows) (e::es)):Ents J S rows es:=⟨by simpa using h.1,fun i x hx=>h.2 (i+1) x hx⟩
theorem kX{J:Inj}{S:Sure}{k:IV}{u:Value}{kk:IntKind}(hk:VR J S k u): ∀{rows:List (List IV)} {es:List MapEntry} {i:Nat} {r:Option (Nat×IV)},Ents J S rows es→ifind k rows i=some r→
  (r=none∧Instr.findNow (.int kk) u es i=some none)∨ ∃j v x y,r=some (i+j,v)∧Instr.findNow (.int kk) u es i=some (some (i+j,y))∧VR J S v y∧es[j]?=some x∧x.val=y∧(∃q a,u= .int q a∧x.key= .int q a)∧ ∃k',rows[j]?=some [k',v]:=by
 intro rows
 induction rows with
 |nil=>
  intro es i r he h
  cases es with
  |nil=>cases h;exact .inl ⟨rfl,rfl⟩
  |cons e es=>have:=he.1;simp at this
 |cons row rows ih=>
  intro es i r he h
  cases es with
  |nil=>have:=he.1;simp at this
  |cons e es=>
   obtain⟨k',v,hr,hk',hv⟩:=he.2 0 e rfl
   cases hr
   unfold ifind at h
   split at h
   ·rename_i hq
    cases h
    obtain⟨s1,s2⟩:=ikey_sound (kk:=kk) hq hk hk'
    exact .inr ⟨0,v,e,e.val,rfl,by simp[Instr.findNow,s1],hv,rfl,rfl,s2 rfl,k',rfl⟩
   ·rename_i hq
    obtain⟨s1,_⟩:=ikey_sound (kk:=kk) hq hk hk'
    rcases ih he.tail h with ⟨h1,h2⟩|⟨j,v',x,y,h1,h2,h3,h4,h5,h6,h7⟩
    ·exact .inl ⟨h1,by simp[Instr.findNow,s1,h2]⟩
    ·exact .inr ⟨j+1,v',x,y,by rw[h1];congr 2;omega,by simp[Instr.findNow,s1,h2];omega,h3,h4,h5,h6,h7⟩
   ·cases h
theorem MapAt.ents{J:Inj}{S:Sure}{w:World}{L:Loc}{b:Blk}(h:MapAt J S w L b): ∃es clock,w.heap[L.rb]?=some (.map es clock)∧Ents J S b.rows es.toList∧(∀(i j:Nat) (x y:MapEntry),es[i]?=some x→es[j]?=some y→i<j→x.born<y.born)∧ ∀(i:Nat) (x:MapEntry),es[i]?=some x→x.born<clock:=by
 obtain⟨es,c,h1,h2,h3,h4⟩:=h.obj
 refine⟨es,c,h1,⟨by simp[h2],fun i x hx=>?_⟩,h3,fun i x hx=>(h4 i x hx).1⟩
 rw[Array.getElem?_toList] at hx
 obtain⟨_,k,v,h5,h6,h7⟩:=h4 i x hx
 exact⟨k,v,h5,h6,h7⟩
theorem rel_mput{J:Inj}{S:Sure}{H:Heap}{w:World}(hH:RelH J S H w){id:Id}{b:Blk}{L:Loc}(hb:H.get id=some b)(hJ:J id=some L)(hm:L.mp=true){es:Array MapEntry}{c:Nat}(hg:w.heap[L.rb]?=some (.map es c))
  (es':Array MapEntry) (c':Nat) (rows':List (List IV)) (hat:MapAt J S (w.putObj L.rb (.map es' c')) L ⟨b.E,rows'⟩):
  RelH J S (H.put id ⟨b.E,rows'⟩) (w.putObj L.rb (.map es' c'))∧Ext J S H w J S (H.put id ⟨b.E,rows'⟩) (w.putObj L.rb (.map es' c')):=by
 have hlt:L.rb<w.heap.size:=kG hg
 have hoth: ∀k,k≠L.rb→(w.putObj L.rb (.map es' c')).heap[k]?=w.heap[k]?:=fun k hk=>World.putObj_heap_other hk
 have hown: ∀k,Owns J (H.put id ⟨b.E,rows'⟩) k↔Owns J H k:=by
  intro k
  constructor
  ·rintro⟨i,M,hB,hM,hk⟩
   exact⟨i,M,(yM hb i).1 hB,hM,hk⟩
  ·rintro⟨i,M,hB,hM,hk⟩
   exact⟨i,M,(yM hb i).2 hB,hM,hk⟩
 constructor
 ·refine⟨fun i B hB=>?_,fun i i' M M' hB hB' hM hM' hr=>hH.inj i i' M M' ((yM hb i).1 hB) ((yM hb i').1 hB') hM hM' hr,fun a v hs=>?_,hH.next,fun i s hs=>?_⟩
  ·by_cases e:i=id
   ·subst e
    simp only[Heap.put,if_true,Option.some.injEq] at hB
    subst hB
    exact⟨L,hJ,⟨fun q=>by(rw[hm] at q;cases q),fun _=>hat⟩⟩
   ·simp only[Heap.put,if_neg e] at hB
    obtain⟨M,hM,hatM⟩:=hH.blk i B hB
    exact⟨M,hM,hatM.heap (hoth _ fun hr=>e (hH.inj i id M L (.inl ⟨B,hB⟩) (.inl ⟨b,hb⟩) hM hJ hr))⟩
  ·obtain⟨h1,h2⟩:=hH.sure a v hs
   have hne:a.blk≠L.rb:=fun e=>h2 ⟨id,L,.inl ⟨b,hb⟩,hJ,e.symm⟩
   exact⟨by rw[yT (hoth _ hne)];exact h1,fun ho=>h2 ((hown _).1 ho)⟩
  ·obtain⟨M,hM,hat2⟩:=hH.lps i s hs
   exact⟨M,hM,hat2.heap (hoth _ (hH.apart hb hJ hs hM))⟩
 ·refine⟨fun _ _ h=>h,fun _ _ h=>h,fun _ _ h=> .inl h,fun k hk=> .inl ((hown k).1 hk),fun k hk ho=>hoth k fun e=>ho ⟨id,L,.inl ⟨b,hb⟩,hJ,e.symm⟩,by simp[World.putObj],rfl,rfl,rfl,fun _=>Nat.le_refl _,fun k r h=>⟨r,(hoth k fun e=>by rw[e,hg] at h;cases h).trans h⟩⟩
theorem rel_mnew{J:Inj}{S:Sure}{H:Heap}{w:World}(hH:RelH J S H w)(k:Nat)(E:Nat):
  ∃J',J' (H.fresh k)=some ⟨w.heap.size,0,E,0,true⟩∧RelH J' S (H.new k ⟨E,[]⟩) (w.alloc (.map #[] 0))∧Ext J S H w J' S (H.new k ⟨E,[]⟩) (w.alloc (.map #[] 0)):=by
 have hnew:J (H.fresh k)=none:=by
  cases h:J (H.fresh k) with
  |none=>rfl
  |some L=>exact absurd (hH.next _ _ h) (by simp[Heap.fresh])
 have hmono: ∀id L,J id=some L→(fun j=>if j=H.fresh k then some (⟨w.heap.size,0,E,0,true⟩:Loc) else J j) id=some L:=by
  intro id L h
  have:id≠H.fresh k:=by intro e;subst e;rw[hnew] at h;cases h
  simp only[if_neg this,h]
 have hold: ∀j B,(H.new k ⟨E,[]⟩).get j=some B→j≠H.fresh k→H.get j=some B:=by
  intro j B hB e;simpa only[Heap.new,if_neg e] using hB
 have hheap: ∀j,j<w.heap.size→(w.alloc (.map #[] 0)).heap[j]?=w.heap[j]?:=fun j hj=>Below.heap_alloc w _ j hj
 have hnewb:(w.alloc (.map #[] 0)).heap[w.heap.size]?=some (.map #[] 0):=by show(w.heap.push _)[w.heap.size]?=_;simp
 refine⟨fun j=>if j=H.fresh k then some ⟨w.heap.size,0,E,0,true⟩ else J j,by simp,⟨fun i B hB=>?_,fun i i' M M' hB hB' hM hM' hr=>?_,fun a v hs=>?_,fun i M hM=>?_,fun i s hs=>?_⟩,?_⟩
 ·by_cases e:i=H.fresh k
  ·subst e
   simp only[Heap.new,if_true,Option.some.injEq] at hB
   subst hB
   exact⟨⟨w.heap.size,0,E,0,true⟩,by simp only[if_true],⟨fun q=>(by cases q),fun _=>⟨⟨#[],0,hnewb,rfl,fun i j x y hx=>by simp at hx,fun i x hx=>by simp at hx⟩⟩⟩⟩
  ·obtain⟨M,hM,hat⟩:=hH.blk i B (hold i B hB e)
   exact⟨M,hmono i M hM,(hat.heap (hheap _ (hH.lt (hold i B hB e) hM))).mono hmono (fun _ _ h=>h)⟩
 ·by_cases e:i=H.fresh k<;>by_cases e':i'=H.fresh k
  ·rw[e,e']
  ·simp only[if_pos e,if_neg e',Option.some.injEq] at hM hM'
   have:=hH.hlt ((yf hB').resolve_left e') hM'
   subst hM
   simp at hr;omega
  ·simp only[if_neg e,if_pos e',Option.some.injEq] at hM hM'
   have:=hH.hlt ((yf hB).resolve_left e) hM
   subst hM'
   simp at hr;omega
  ·simp only[if_neg e,if_neg e'] at hM hM'
   exact hH.inj i i' M M' ((yf hB).resolve_left e) ((yf hB').resolve_left e') hM hM' hr
 ·obtain⟨h1,h2⟩:=hH.sure a v hs
  have hlt:=kno_lt h1
  refine⟨by rw[yT (hheap _ hlt)];exact h1,?_⟩
  rintro⟨i,M,hB,hM,hk⟩
  by_cases e:i=H.fresh k
  ·simp only[if_pos e,Option.some.injEq] at hM
   subst hM;simp at hk;omega
  ·simp only[if_neg e] at hM
   exact h2 ⟨i,M,(yf hB).resolve_left e,hM,hk⟩
 ·by_cases e:i=H.fresh k
  ·subst e;simp[Heap.new,Heap.fresh]
  ·simp only[if_neg e] at hM
   have:=hH.next i M hM
   simp only[Heap.new]
   split
   ·rename_i hk;rw[hk] at this;omega
   ·exact this
 ·obtain⟨M,hM,hat⟩:=hH.lps i s hs
  exact⟨M,hmono i M hM,(hat.heap (hheap _ (hH.hlt (.inr ⟨s,hs⟩) hM))).mono hmono (fun _ _ h=>h)⟩
 ·refine⟨hmono,fun _ _ h=>h,fun _ _ h=> .inl h,?_,fun j hj _=>hheap j hj,by simp,rfl,rfl,rfl,fun j=>by simp only[Heap.new];split<;>simp_all,fun k r h=>⟨r,(hheap k (kG h)).trans h⟩⟩
  rintro b ⟨i,M,hB,hM,hk⟩
  by_cases e:i=H.fresh k
  ·simp only[if_pos e,Option.some.injEq] at hM
   subst hM;simp at hk;right;omega
  ·simp only[if_neg e] at hM
   exact .inl ⟨i,M,(yf hB).resolve_left e,hM,hk⟩
def mkeyOk(P:Program)(t:TypeId):Option (TypeId×TypeId):=match tc P t with
 |some C=>match C.kd with
  | .map kt et=>match tc P kt with
   |some K=>match K.kd with| .int _=>some (kt,et)|_=>none
   |none=>none
  |_=>none
 |none=>none
theorem mkeyOk_sound{P:Program}{t kt et:TypeId}(h:mkeyOk P t=some (kt,et)):P.underlying t=some (.map kt et)∧ ∃k,P.underlying kt=some (.int k):=by
 unfold mkeyOk at h
 split at h
 ·rename_i C hC
  split at h
  ·rename_i kt' et' hk
   split at h
   ·rename_i K hK
    split at h
    ·rename_i kk hkk
     cases h
     obtain⟨i,d,hinf,hu,hsz,hby,hag,hzero,hkd,hflat⟩:=zZ hC
     obtain⟨i',d',hinf',hu',hsz',hby',hag',hzero',hkd',hflat'⟩:=zZ hK
     rw[hk] at hkd;rw[hkk] at hkd'
     have:=kd_map hkd;subst this
     have:=kd_int hkd';subst this
     exact⟨hu,kk,hu'⟩
    ·cases h
   ·cases h
  ·cases h
 ·cases h
def irowsM(H:Heap):IV→Option (List (List IV))
 | .nilm=>some []
 | .mim rows=>some rows
 | .mp id=>(H.get id).map fun b=>b.rows
 |_=>none
def izeroV(P:Program)(t:TypeId):Option IV:=match P.info? t with
 |some i=>match i.zero with
  |some (.agg cs)=>some (.agg (cs.toList.map ofConst))
  |some z=>some (ofConst z)
  |none=>none
 |none=>none
theorem izeroV_sound{P:Program}{t:TypeId}{v:IV}(h:izeroV P t=some v)(J:Inj)(S:Sure)(w:World): ∃z,(zeroValue t).run P w= .ok z w∧VR J S v z:=by
 unfold izeroV at h
 split at h
 ·rename_i i hi
  split at h
  ·rename_i cs hz
   cases h
   refine⟨.agg cs,by simp[zeroValue,typeInfo,hi,hz],.agg (by simp) fun k v u hv hu=>?_⟩
   rw[List.getElem?_map,Array.getElem?_toList,hu] at hv
   cases hv
   exact VR.ofConst J S u
  ·rename_i z hna hz
   cases h
   exact⟨z,by simp[zeroValue,typeInfo,hi,hz],VR.ofConst J S z⟩
  ·cases h
 ·cases h
def ilook(P:Program)(H:Heap)(t:TypeId)(x k:IV)(ok:Bool):Option IV:=
 match mkeyOk P t,irowsM H x with
 |some (_,et),some rows=>match ifind k rows 0 with
  |some (some (_,v))=>some (if ok=true then .tup [v,.bool true] else v)
  |some none=>(izeroV P et).map fun z=>if ok=true then .tup [z,.bool false] else z
  |none=>none
 |_,_=>none
theorem VR.tup2{J:Inj}{S:Sure}{a:IV}{u:Value}(h:VR J S a u)(b:Bool):VR J S (.tup [a,.bool b]) (.tuple #[u,.bool b]):=by
 refine .tup rfl fun k v x hv hx=>?_
 rcases k with _|_|k
 ·simp at hv hx;subst hv;subst hx;exact h
 ·simp at hv hx;subst hv;subst hx;exact .bool b
 ·simp at hv
theorem yq{P:Program}{w:World}{kt:TypeId}{kk:IntKind}(hku:P.underlying kt=some (.int kk))(e:Bool)(uk:Value):(Instr.checkKey e 10000 kt uk).run P w= .ok () w:=by
 rw[show(10000:Nat)=9999+1 from rfl,Instr.checkKey]
 simp[run_underlying hku]
def EsOf(w:World)(u:Value)(es:Array MapEntry):Prop:=(u= .map none∧es= #[])∨ ∃r c,u= .map (some r)∧w.heap[r]?=some (.map es c)
theorem run_look_found{P:Program}{w:World}{t kt et:TypeId}{kk:IntKind}{u uk y:Value}{es:Array MapEntry}{i:Nat}{ok:Bool}(hu:P.underlying t=some (.map kt et))(hku:P.underlying kt=some (.int kk))(he:EsOf w u es)
  (hr:Instr.findNow (.int kk) uk es.toList 0=some (some (i,y))):(Instr.lookup t u uk ok).run P w= .ok (if ok=true then .tuple #[y,.bool true] else y) w:=by
 rcases he with ⟨rfl,rfl⟩|⟨r,c,rfl,hg⟩
 ·simp[Instr.findNow] at hr
 ·cases ok<;>simp[Instr.lookup,run_underlying hu,MapKept.run_getObj_map hg,yq hku,Instr.findKey,run_underlying hku,hr]
theorem run_look_none{P:Program}{w:World}{t kt et:TypeId}{kk:IntKind}{u uk z:Value}{es:Array MapEntry}{ok:Bool}(hu:P.underlying t=some (.map kt et))(hku:P.underlying kt=some (.int kk))(he:EsOf w u es)
  (hr:Instr.findNow (.int kk) uk es.toList 0=some none) (hz:(zeroValue et).run P w= .ok z w):(Instr.lookup t u uk ok).run P w= .ok (if ok=true then .tuple #[z,.bool false] else z) w:=by
 rcases he with ⟨rfl,rfl⟩|⟨r,c,rfl,hg⟩
 ·cases ok<;>simp[Instr.lookup,run_underlying hu,yq hku,Instr.findKey,run_underlying hku,Instr.findNow,hz]
 ·cases ok<;>simp[Instr.lookup,run_underlying hu,MapKept.run_getObj_map hg,yq hku,Instr.findKey,run_underlying hku,hr,hz]
theorem irowsM_sound{J:Inj}{S:Sure}{H:Heap}{w:World}(hH:RelH J S H w){x:IV}{u:Value}{rows:List (List IV)}(hr:irowsM H x=some rows)(hx:VR J S x u): ∃es,EsOf w u es∧Ents J S rows es.toList:=by
 unfold irowsM at hr
 split at hr
 ·cases hr;cases hx
  exact⟨#[],.inl ⟨rfl,rfl⟩,⟨rfl,fun i x hx=>by simp at hx⟩⟩
 ·cases hr
  cases hx with
  |mimnil=>exact⟨#[],.inl ⟨rfl,rfl⟩,⟨rfl,fun i x hx=>by simp at hx⟩⟩
  |mim hS hl ho hb hr hK hV=>
   rename_i b es c
   obtain⟨es',c',g1,g2⟩:=kno_m (hH.sure _ _ hS).1
   obtain⟨rfl,rfl⟩:=mobj_inj g2
   refine⟨es,.inr ⟨b,c,rfl,g1⟩,⟨by simp[hl],fun i x hx=>?_⟩⟩
   rw[Array.getElem?_toList] at hx
   have hlt:i<rows.length:=by rw[←hl];exact(Array.getElem?_eq_some_iff.1 hx).1
   obtain⟨k,v,e⟩:=hr i rows[i] (by simp[hlt])
   have hi:rows[i]?=some [k,v]:=by rw[←e];simp[hlt]
   exact⟨k,v,hi,hK i x k v hx hi,hV i x k v hx hi⟩
 ·rename_i id
  rw[Option.map_eq_some_iff] at hr
  obtain⟨b,hb,rfl⟩:=hr
  cases hx with
  |mp hJ hmp=>
   obtain⟨L',hL',hat⟩:=hH.blk id b hb
   rw[hJ] at hL';cases hL'
   obtain⟨es,c,h1,h2,_⟩:=(hat.mp hmp).ents
   exact⟨es,.inr ⟨_,c,rfl,h1⟩,h2⟩
 ·cases hr
theorem look_sound{P:Program}{t:TypeId}{x k v:IV}{ok:Bool}{J:Inj}{S:Sure}{H:Heap}{w:World}(hH:RelH J S H w)(h:ilook P H t x k ok=some v){u uk:Value}(hx:VR J S x u)(hk:VR J S k uk):
  ∃r,(Instr.lookup t u uk ok).run P w= .ok r w∧VR J S v r:=by
 unfold ilook at h
 split at h
 ·rename_i kt et rows hm hr
  obtain⟨hu,kk,hku⟩:=mkeyOk_sound hm
  obtain⟨es,he,hE⟩:=irowsM_sound hH hr hx
  split at h
  ·rename_i i y hf
   cases h
   rcases kX (kk:=kk) hk hE hf with ⟨q,_⟩|⟨j,v',x',y',q,h2,h3,_⟩
   ·cases q
   ·cases q
    refine⟨_,run_look_found hu hku he h2,?_⟩
    cases ok
    ·exact h3
    ·exact h3.tup2 true
  ·rename_i hf
   rw[Option.map_eq_some_iff] at h
   obtain⟨z,hz,rfl⟩:=h
   obtain⟨z',hz1,hz2⟩:=izeroV_sound hz J S w
   rcases kX (kk:=kk) hk hE hf with ⟨_,h2⟩|⟨j,v',x',y',q,_⟩
   ·refine⟨_,run_look_none hu hku he h2 hz1,?_⟩
    cases ok
    ·exact hz2
    ·exact hz2.tup2 false
   ·cases q
  ·cases h
 ·cases h
def imput(P:Program)(H:Heap)(t:TypeId)(x k v:IV):Option Eff:=
 match mkeyOk P t,x with
 |some _,.mp id=>match H.get id with
  |some b=>match ifind k b.rows 0 with
   |some (some (i,_))=>some (.put id ⟨b.E,b.rows.set i [k,v]⟩)
   |some none=>some (.put id ⟨b.E,b.rows++[[k,v]]⟩)
   |none=>none
  |none=>none
 |_,_=>none
theorem mput_sound{P:Program}{H:Heap}{t:TypeId}{x k v:IV}{e:Eff}(h:imput P H t x k v=some e){J:Inj}{S:Sure}{w:World}(hH:RelH J S H w){u uk uv:Value}(hx:VR J S x u)(hk:VR J S k uk)(hv:VR J S v uv)(n:Nat):
  ∃w' J',(Instr.mapUpdate t u uk uv).run P w= .ok () w'∧RelH J' S (e.app H n) w'∧Ext J S H w J' S (e.app H n) w':=by
 unfold imput at h
 split at h
 ·rename_i p id hm
  obtain⟨kt,et⟩:=p
  obtain⟨hu,kk,hku⟩:=mkeyOk_sound hm
  split at h
  ·rename_i b hb
   cases hx with
   | @mp _ L hJ hmp=>
    obtain⟨L',hL',hat⟩:=hH.blk id b hb
    rw[hJ] at hL';cases hL'
    obtain⟨es,c,h1,hE,hlt,hbo⟩:=(hat.mp hmp).ents
    have hsz:L.rb<w.heap.size:=kG h1
    split at h
    ·rename_i i y hf
     cases h
     rcases kX (kk:=kk) hk hE hf with ⟨q,_⟩|⟨j,v',x',y',q,h2,h3,h4,h5,⟨q2,a,hq1,hq2⟩,k',hrow⟩
     ·cases q
     ·have:i=j:=by simp at q;omega
      subst this
      have hgx:es[i]?=some x':=by rw[←Array.getElem?_toList];exact h4
      have hi:i<es.size:=(Array.getElem?_eq_some_iff.1 hgx).1
      refine⟨w.putObj L.rb (.map (es.modify i fun e=>{e with key:=uk,val:=uv}) c),J,?_,?_⟩
      ·have hsb:Instr.sameBits 10000 (.int q2 a) (.int q2 a)=true:=by simp[Instr.sameBits]
       have hkeep:(Instr.keyThatStays (((es[i]?).map (·.key)).getD uk) uk).run P w= .ok uk w:=by
        rw[hgx]
        simp only[Option.map_some,Option.getD_some,hq2,hq1]
        simp[Instr.keyThatStays,hsb]
       have hi0:(0:Nat)+i=i:=by omega
       rw[hi0] at h2
       simp[Instr.mapUpdate,run_underlying hu,MapKept.run_getObj_map h1,yq hku,Instr.findKey,run_underlying hku,h2,hkeep,MapKept.run_setObj_map _ h1,World.putObj]
      ·refine rel_mput hH hb hJ hmp h1 _ _ _ ⟨⟨_,c,World.putObj_heap_same hsz,by simp[hE.1],fun p q x y hp hq hpq=>?_,fun p x hp=>?_⟩⟩
       ·simp only[Array.getElem?_modify] at hp hq
        have bp: ∃x0,es[p]?=some x0∧x.born=x0.born:=by
         split at hp
         ·rw[Option.map_eq_some_iff] at hp;obtain⟨x0,g1,rfl⟩:=hp;exact⟨x0,g1,rfl⟩
         ·exact⟨x,hp,rfl⟩
        have bq: ∃x0,es[q]?=some x0∧y.born=x0.born:=by
         split at hq
         ·rw[Option.map_eq_some_iff] at hq;obtain⟨x0,g1,rfl⟩:=hq;exact⟨x0,g1,rfl⟩
         ·exact⟨y,hq,rfl⟩
        obtain⟨x0,g1,g2⟩:=bp
        obtain⟨y0,g3,g4⟩:=bq
        rw[g2,g4];exact hlt p q x0 y0 g1 g3 hpq
       ·simp only[Array.getElem?_modify] at hp
        split at hp
        ·rename_i e
         subst e
         rw[hgx] at hp
         cases hp
         refine⟨hbo i x' hgx,k,v,?_,hk,hv⟩
         rw[List.getElem?_set_self (by rw[hE.1];simpa using hi)]
        ·rename_i e
         obtain⟨k0,v0,g1,g2,g3⟩:=hE.2 p x (by rw[Array.getElem?_toList];exact hp)
         exact⟨hbo p x hp,k0,v0,by rw[List.getElem?_set_ne e];exact g1,g2,g3⟩
    ·rename_i hf
     cases h
     rcases kX (kk:=kk) hk hE hf with ⟨_,h2⟩|⟨j,v',x',y',q,_⟩
     ·refine⟨w.putObj L.rb (.map (es.push {key:=uk,val:=uv,born:=c}) (c+1)),J,?_,?_⟩
      ·simp[Instr.mapUpdate,run_underlying hu,MapKept.run_getObj_map h1,yq hku,Instr.findKey,run_underlying hku,h2,MapKept.run_setObj_map _ h1,World.putObj]
      ·have hEs:b.rows.length=es.size:=by simpa using hE.1
       refine rel_mput hH hb hJ hmp h1 _ _ _ ⟨⟨_,c+1,World.putObj_heap_same hsz,by simp[hE.1],fun p q x y hp hq hpq=>?_,fun p x hp=>?_⟩⟩
       ·rw[Array.getElem?_push] at hp hq
        split at hp
        ·rename_i e
         split at hq
         ·omega
         ·have:=(Array.getElem?_eq_some_iff.1 hq).1;omega
        ·split at hq
         ·cases hq;exact hbo p x hp
         ·exact hlt p q x y hp hq hpq
       ·rw[Array.getElem?_push] at hp
        split at hp
        ·rename_i e
         cases hp
         refine⟨Nat.lt_succ_self _,k,v,?_,hk,hv⟩
         rw[e,←hEs,List.getElem?_append_right (Nat.le_refl _)];simp
        ·obtain⟨k0,v0,g1,g2,g3⟩:=hE.2 p x (by rw[Array.getElem?_toList];exact hp)
         refine⟨Nat.lt_succ_of_lt (hbo p x hp),k0,v0,?_,g2,g3⟩
         rw[List.getElem?_append_left (List.getElem?_eq_some_iff.1 g1).1];exact g1
     ·cases q
    ·cases h
  ·cases h
 ·cases h
theorem mnew_sound{P:Program}{t:TypeId}{J:Inj}{S:Sure}{H:Heap}{w:World}(hH:RelH J S H w)(k:Nat):OutV P (Instr.makeMap t none) J S H w (.mp (H.fresh k)) (H.new k ⟨2,[]⟩):=by
 obtain⟨J',h1,h2,h3⟩:=rel_mnew hH k 2
 exact⟨.map (some w.heap.size),_,J',by simp[Instr.makeMap],.mp h1 rfl,h2,h3⟩
end Go.Proofs.Ytoojnagdenoknaa.IL
