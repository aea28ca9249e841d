/- The ideal logic, part 9: one operation, as a function of the ideal frame and heap, and its soundness; calls. Nothing here speaks of a given program. -/
import Derived.Test.YtoojnagdenoknaaILM
import Derived.Laws.Build
import Derived.Laws.Small
import Derived.Laws.BytesArg
set_option linter.unusedSectionVars false
set_option linter.unnecessarySimpa false
set_option linter.unusedVariables false
set_option linter.unusedSimpArgs false
namespace Go.Proofs.Ytoojnagdenoknaa.IL
open Go Go.RowKit
def imax(mx:Bool):List IV→Option IV
 |[.int k x,.int _ y]=>some (.int k (if mx then(if y>x then y else x) else(if y<x then y else x)))
 |_=>none
def ibuiltin(P:Program)(H:Heap)(k:Nat)(b:Builtin)(ts:List TypeId)(args:List IV):Option (IV×Eff):=
 match b,ts,args with
 | .len,[t],[x]=>(ilen P t x).map fun v=>(v,.none)
 | .append,[t,tx],[s,x]=>iapp P H k t tx s x
 | .copy,[t,tx],[d,x]=>icopy P H t tx d x
 | .max,_,args=>(imax true args).map fun v=>(v,.none)
 | .min,_,args=>(imax false args).map fun v=>(v,.none)
 |_,_,_=>none
def isConst':Operand→Bool
 | .const _=>true
 |_=>false
def rowBytes:List (List IV)→Option (List Int)
 |[]=>some []
 |[.int .u8 n]::t=>(rowBytes t).map (n:: ·)
 |_=>none
theorem rowBytes_at: ∀{rows:List (List IV)} {ns:List Int},rowBytes rows=some ns→rows=ns.map fun x=>[.int .u8 x]
 |[],ns,h=>by cases h;rfl
 |r::rs,ns,h=>by
  unfold rowBytes at h
  split at h
  ·rename_i e;cases e
  ·rename_i n t e
   cases e
   rw[Option.map_eq_some_iff] at h
   obtain⟨l,hl,rfl⟩:=h
   rw[rowBytes_at hl];rfl
  ·cases h
def iconvH(P:Program)(H:Heap)(src dst:TypeId)(x:IV):Option IV:=
 match iconv P src dst x with
 |some v=>some v
 |none=>match tc P src,tc P dst with
  |some C,some D=>match C.kd,D.kd with
   | .slice e,.string=>match tc P e with
    |some A=>match A.kd with
     | .int .u8=>((srows H 1 x).bind rowBytes).map fun ns=> .str (strOfNums ns)
     |_=>none
    |none=>none
   |_,_=>none
  |_,_=>none
theorem convH_sound{P:Program}{src dst:TypeId}{x v:IV}{J:Inj}{S:Sure}{H:Heap}{w:World}(hH:RelH J S H w)(h:iconvH P H src dst x=some v){u:Value}(hx:VR J S x u): ∃r,(convert src dst u).run P w= .ok r w∧VR J S v r:=by
 unfold iconvH at h
 split at h
 ·rename_i v' hv
  cases h
  exact conv_sound hv hx w
 ·split at h
  ·rename_i C D hC hD
   split at h
   ·rename_i e hk hk'
    split at h
    ·rename_i A hA
     split at h
     ·rename_i hka
      rw[Option.map_eq_some_iff] at h
      obtain⟨ns,hns,rfl⟩:=h
      rw[Option.bind_eq_some_iff] at hns
      obtain⟨rows,hr,hb⟩:=hns
      have hrow:=rowBytes_at hb
      subst hrow
      obtain⟨_,a,c,rfl,hc,ha,hcell⟩:=kP hH hr hx
      obtain⟨i,d,hinf,hu,hsz,hby,hag,hzero,hkd,hflat⟩:=zZ hC
      obtain⟨i',d',hinf',hu',hsz',hby',hag',hzero',hkd',hflat'⟩:=zZ hD
      obtain⟨i2,d2,hinf2,hu2,hsz2,hby2,hag2,hzero2,hkd2,hflat2⟩:=zZ hA
      rw[hk] at hkd;rw[hk'] at hkd';rw[hka] at hkd2
      have:=yK hkd;subst this
      have:=kM hkd';subst this
      have:=kd_int hkd2;subst this
      rw[List.length_map] at hc
      cases a with
      |none=>
       have h0:ns=[]:=List.length_eq_zero_iff.1 (by have:=ha rfl;omega)
       subst h0
       exact⟨_,run_convert_bytes_nil w src e hu hu2 _ _ dst hu',.str _⟩
      |some ad=>
       have hl:(loadCells ad (ns.map (Value.int .u8)).length).run P w= .ok (ns.map (Value.int .u8)).toArray w:=run_loadCells_list (P:=P) w ad (ns.map (Value.int .u8)) (fun j v hj=>by
        rw[List.getElem?_map,Option.map_eq_some_iff] at hj
        obtain⟨n,hn,rfl⟩:=hj
        obtain⟨y,hy,hv⟩:=hcell ad rfl j [.int .u8 n] 0 (.int .u8 n) (by rw[List.getElem?_map,hn];rfl) rfl
        cases hv
        simpa using hy)
       rw[List.length_map] at hl
       refine⟨.string (strOfNums ns),?_,.str _⟩
       rw[List.length_map,run_convert_bytes_string w src dst e _ _ _ hu hu2 hu',run_bytesToString w ad ns.length c ns hl,foldl_push_bytes]
       simp[strOfNums,ByteArray.empty,ByteArray.emptyWithCapacity]
       rfl
     ·cases h
    ·cases h
   ·cases h
  ·cases h
def iop(P:Program)(o:Oper)(a:Fr)(H:Heap):Option (IV×Eff):=
 let k:=a.b+o.dst.getD 0
 match o.op with
 | .move x| .assign x=>some (a.ev x,.none)
 | .pick c x y=>match a.ev c with
  | .bool b=>some (if b then a.ev x else a.ev y,.none)
  |_=>none
 | .alloc t=>match tc P t with
  |some C=>match C.zero with
   |some zs=>some (.pb (H.fresh k) 0 0,.new ⟨zs.length,[zs]⟩)
   |none=>none
  |none=>none
 | .box _ x=>match (a.ev x).cells with
  |some cs=>some (.pb (H.fresh k) 0 0,.new ⟨cs.length,[cs]⟩)
  |none=>none
 | .build t ps=>if fieldsKnown P t then(ibuild P t (ps.toList.map fun p=>(p.1,a.ev p.2))).map fun v=>(v,.none) else none
 | .buildSlice t n ps=>(ibslice P t n (ps.toList.map fun p=>(p.1,a.ev p.2))).map fun b=>(.sb (H.fresh k) 0 n true,.new b)
 | .load t x=>(iload P H t (a.ev x)).map fun v=>(v,.none)
 | .store t x y=>(istore P H t (a.ev x) (a.ev y)).map fun e=>(.junk,e)
 | .nilCheck x=>match a.ev x with
  | .pb id i o=>some (.pb id i o,.none)
  | .pim r i o=>some (.pim r i o,.none)
  |_=>none
 | .binOp op t x y _=>(ibin P op t (a.ev x) (a.ev y) (isConst' y)).map fun v=>(v,.none)
 | .unOp op _ x=>(iun op (a.ev x)).map fun v=>(v,.none)
 | .convert s d x=>(iconvH P H s d (a.ev x)).map fun v=>(v,.none)
 | .makeInterface t x=>if P.concrete t then some (.iface t (a.ev x),.none) else none
 | .makeFunc fn f c=>some (.fn fn (f.toList.map a.ev) (c.toList.map a.ev),.none)
 | .makeSlice t l c=>(imake P t (a.ev l) (a.ev c)).map fun r=>(.sb (H.fresh k) 0 r.2.1 r.2.2,.new r.1)
 | .slice t x lo hi mx=>(islice P H t (a.ev x) (lo.map a.ev) (hi.map a.ev) (mx.map a.ev)).map fun v=>(v,.none)
 | .fieldAddr t x f=>(ifaddr P t (a.ev x) f).map fun v=>(v,.none)
 | .indexAddr t x i=>(iiaddr P H t (a.ev x) (a.ev i)).map fun v=>(v,.none)
 | .index t x i=>(iindex P t (a.ev x) (a.ev i)).map fun v=>(v,.none)
 | .extract x n=>(iext (a.ev x) n).map fun v=>(v,.none)
 | .makeMap _ none=>some (.mp (H.fresh k),.new ⟨2,[]⟩)
 | .lookup t x i ok=>(ilook P H t (a.ev x) (a.ev i) ok).map fun v=>(v,.none)
 | .mapUpdate t m x y=>(imput P H t (a.ev m) (a.ev x) (a.ev y)).map fun e=>(.junk,e)
 | .call c=>match c.callee with
  | .builtin b=>ibuiltin P H k b c.argTypes.toList (c.args.toList.map a.ev)
  |_=>none
 |_=>none
def OutO(P:Program)(o:Oper)(ra:Act)(J:Inj)(S:Sure)(H:Heap)(w:World)(v:IV)(H':Heap):Prop:=
 ∃u w' J',((execOp ra.eval o).run P w= .ok (.value u) w'∨((execOp ra.eval o).run P w= .ok .skip w'∧u=undef))∧VR J' S v u∧RelH J' S H' w'∧Ext J S H w J' S H' w'
theorem OutO.ofV{P:Program}{o:Oper}{ra:Act}{J:Inj}{S:Sure}{H H':Heap}{w:World}{v:IV}{s:Sem Value}(he:execOp ra.eval o=(do pure (.value (←s))))(h:OutV P s J S H w v H'):OutO P o ra J S H w v H':=by
 obtain⟨u,w',J',h1,h2,h3,h4⟩:=h
 exact⟨u,w',J',.inl (by rw[he];simp[h1]),h2,h3,h4⟩
theorem VRo.map{J:Inj}{S:Sure}{a:Fr}{ra:Act}(hF:RelF J S a ra)(x:Option Operand):VRo J S (x.map a.ev) (x.map ra.eval):=by
 cases x with
 |none=>trivial
 |some x=>exact hF.ev x
theorem VRs.map{J:Inj}{S:Sure}{a:Fr}{ra:Act}(hF:RelF J S a ra)(xs:Array Operand):VRs J S (xs.toList.map a.ev) (xs.map ra.eval):=by
 refine⟨by simp,fun k v u hv hu=>?_⟩
 simp only[List.getElem?_map,Option.map_eq_some_iff] at hv
 simp only[Array.getElem?_map,Option.map_eq_some_iff] at hu
 obtain⟨x,hx,rfl⟩:=hv
 obtain⟨y,hy,rfl⟩:=hu
 rw[Array.getElem?_toList,hy] at hx
 cases hx
 exact hF.ev _
theorem VRs.one{J:Inj}{S:Sure}{x:IV}{us:Array Value}(h:VRs J S [x] us): ∃u,us= #[u]∧VR J S x u:=by
 obtain⟨h1,h2⟩:=h
 have hs:us.size=1:=h1.symm
 refine⟨us[0],?_,h2 0 x us[0] rfl (by simp)⟩
 apply Array.ext
 ·simp[hs]
 ·intro i hi1 hi2
  have:i=0:=by omega
  subst this;rfl
theorem VRs.two{J:Inj}{S:Sure}{x y:IV}{us:Array Value}(h:VRs J S [x,y] us): ∃u u',us= #[u,u']∧VR J S x u∧VR J S y u':=by
 obtain⟨h1,h2⟩:=h
 have hs:us.size=2:=h1.symm
 refine⟨us[0],us[1],?_,h2 0 x us[0] rfl (by simp),h2 1 y us[1] rfl (by simp)⟩
 apply Array.ext
 ·simp[hs]
 ·intro i hi1 hi2
  have:i=0∨i=1:=by omega
  rcases this with rfl|rfl<;>rfl
theorem builtin_sound{P:Program}{H:Heap}{k:Nat}{b:Builtin}{ts:Array TypeId}{ty:TypeId}{cs:Array Bool}{args:List IV}{v:IV}{e:Eff}(h:ibuiltin P H k b ts.toList args=some (v,e)){J:Inj}{S:Sure}{w:World}(hH:RelH J S H w)
  {us:Array Value} (ha:VRs J S args us): ∃s:Sem Value,builtin b ts ty cs us=(do pure (.value (←s)))∧OutV P s J S H w v (e.app H k):=by
 obtain⟨ts⟩:=ts
 unfold ibuiltin at h
 simp only at h
 split at h
 ·rename_i t x
  simp only[Option.map_eq_some_iff] at h
  obtain⟨v',hv,he⟩:=h
  cases he
  obtain⟨u,rfl,hu⟩:=ha.one
  exact⟨_,rfl,.quiet hH (len_sound hv hu w)⟩
 ·rename_i t tx s x
  obtain⟨u,u',rfl,hu,hu'⟩:=ha.two
  exact⟨_,rfl,app_sound h hH hu hu'⟩
 ·rename_i t tx s x
  obtain⟨u,u',rfl,hu,hu'⟩:=ha.two
  exact⟨_,rfl,copy_sound h hH hu hu'⟩
 ·simp only[Option.map_eq_some_iff] at h
  obtain⟨v',hv,he⟩:=h
  cases he
  unfold imax at hv
  split at hv
  ·rename_i q x k' y
   obtain⟨u,u',rfl,hu,hu'⟩:=ha.two
   cases hu;cases hu';cases hv
   exact⟨_,rfl,.quiet hH ⟨_,run_max_int2 w ⟨ts⟩ ty _ _ _ _,by simpa using VR.int _ _⟩⟩
  ·cases hv
 ·simp only[Option.map_eq_some_iff] at h
  obtain⟨v',hv,he⟩:=h
  cases he
  unfold imax at hv
  split at hv
  ·rename_i q x k' y
   obtain⟨u,u',rfl,hu,hu'⟩:=ha.two
   cases hu;cases hu';cases hv
   exact⟨_,rfl,.quiet hH ⟨_,run_min_int2 w ⟨ts⟩ ty _ _ _ _,by simpa using VR.int _ _⟩⟩
  ·cases hv
 ·cases h
theorem iop_sound{P:Program}{o:Oper}{a:Fr}{H:Heap}{v:IV}{e:Eff}(h:iop P o a H=some (v,e)){J:Inj}{S:Sure}{ra:Act}{w:World}(hF:RelF J S a ra)(hH:RelH J S H w):
  OutO P o ra J S H w v (e.app H (a.b+o.dst.getD 0)):=by
 obtain⟨dst,op,type,pos,after,guard⟩:=o
 cases op<;>simp only[iop] at h<;>try (cases h;done)
 case move x=>cases h;exact⟨_,w,J,.inl rfl,hF.ev x,hH,.refl⟩
 case assign x=>cases h;exact⟨_,w,J,.inl rfl,hF.ev x,hH,.refl⟩
 case pick c x y=>
  split at h
  ·rename_i b hb
   cases h
   have hc:=hF.ev c
   rw[hb] at hc
   generalize hu:ra.eval c=u at hc
   cases hc
   refine⟨if b then ra.eval x else ra.eval y,w,J,.inl ?_,?_,hH,.refl⟩
   ·simp[execOp,hu,asBool]
   ·cases b
    ·exact hF.ev y
    ·exact hF.ev x
  ·cases h
 case alloc t=>
  split at h
  ·rename_i C hC
   split at h
   ·rename_i zs hz
    cases h
    exact .ofV rfl (alloc_sound hC hz hH _)
   ·cases h
  ·cases h
 case box t x=>
  split at h
  ·rename_i cs hcs
   cases h
   exact .ofV rfl (box_sound hcs hH (hF.ev x) _)
  ·cases h
 case build t ps=>
  split at h
  ·rename_i hk
   simp only[Option.map_eq_some_iff] at h
   obtain⟨v',hv,he⟩:=h
   cases he
   exact .ofV rfl (.quiet hH (build_sound hF hv hk w))
  ·cases h
 case buildSlice t n ps=>
  simp only[Option.map_eq_some_iff] at h
  obtain⟨b,hb,he⟩:=h
  cases he
  exact .ofV rfl (bslice_sound hF hb hH _)
 case load t x=>
  simp only[Option.map_eq_some_iff] at h
  obtain⟨v',hv,he⟩:=h
  cases he
  exact .ofV rfl (.quiet hH (load_sound hv hH (hF.ev x)))
 case store t x y=>
  simp only[Option.map_eq_some_iff] at h
  obtain⟨e',hv,he⟩:=h
  cases he
  obtain⟨w',J',h1,h2,h3⟩:=store_sound hv hH (hF.ev x) (hF.ev y) (a.b+dst.getD 0)
  exact⟨undef,w',J',.inr ⟨by simp[execOp,h1],rfl⟩,.junk _,h2,h3⟩
 case makeMap t r=>
  cases r with
  |some r=>cases h
  |none=>
   cases h
   exact .ofV rfl (mnew_sound hH _)
 case lookup t x i ok=>
  simp only[Option.map_eq_some_iff] at h
  obtain⟨v',hv,he⟩:=h
  cases he
  exact .ofV rfl (.quiet hH (look_sound hH hv (hF.ev x) (hF.ev i)))
 case mapUpdate t m x y=>
  simp only[Option.map_eq_some_iff] at h
  obtain⟨e',hv,he⟩:=h
  cases he
  obtain⟨w',J',h1,h2,h3⟩:=mput_sound hv hH (hF.ev m) (hF.ev x) (hF.ev y) (a.b+dst.getD 0)
  exact⟨undef,w',J',.inr ⟨by simp[execOp,h1],rfl⟩,.junk _,h2,h3⟩
 case nilCheck x=>
  have hx:=hF.ev x
  split at h
  ·rename_i id i o hv
   cases h
   rw[hv] at hx
   generalize hu:ra.eval x=u at hx
   cases hx with
   |pb hL hm=>exact⟨_,w,J,.inl (by simp[execOp,hu]),.pb hL,hH,.refl⟩
  ·rename_i r i o hv
   cases h
   rw[hv] at hx
   generalize hu:ra.eval x=u at hx
   cases hx with
   |pim hE hS hV=>exact⟨_,w,J,.inl (by simp[execOp,hu]),.pim hE hS hV,hH,.refl⟩
  ·cases h
 case binOp op t x y ty=>
  simp only[Option.map_eq_some_iff] at h
  obtain⟨v',hv,he⟩:=h
  cases he
  exact .ofV rfl (.quiet hH (bin_sound hv (fun hc=>by cases y<;>simp[isConst'] at hc ⊢) (hF.ev x) (hF.ev y) w))
 case unOp op t x=>
  simp only[Option.map_eq_some_iff] at h
  obtain⟨v',hv,he⟩:=h
  cases he
  exact .ofV rfl (.quiet hH (un_sound hv (hF.ev x) w))
 case convert s d x=>
  simp only[Option.map_eq_some_iff] at h
  obtain⟨v',hv,he⟩:=h
  cases he
  exact .ofV rfl (.quiet hH (convH_sound hH hv (hF.ev x)))
 case makeInterface t x=>
  split at h
  ·rename_i hc
   cases h
   exact .ofV rfl (.quiet hH ⟨_,run_makeInterface w t _ hc,.iface (hF.ev x)⟩)
  ·cases h
 case makeFunc fn f c=>
  cases h
  refine .ofV rfl (.quiet hH ⟨_,rfl,?_⟩)
  obtain⟨f1,f2⟩:=VRs.map hF f
  obtain⟨c1,c2⟩:=VRs.map hF c
  exact .fn f1 c1 f2 c2
 case makeSlice t l c=>
  simp only[Option.map_eq_some_iff] at h
  obtain⟨⟨b,n,full⟩,hv,he⟩:=h
  cases he
  exact .ofV rfl (make_sound hv hH (hF.ev l) (hF.ev c) _)
 case slice t x lo hi mx=>
  simp only[Option.map_eq_some_iff] at h
  obtain⟨v',hv,he⟩:=h
  cases he
  exact .ofV rfl (.quiet hH (slice_sound hv hH (hF.ev x) (.map hF lo) (.map hF hi) (.map hF mx)))
 case fieldAddr t x f=>
  simp only[Option.map_eq_some_iff] at h
  obtain⟨v',hv,he⟩:=h
  cases he
  exact .ofV rfl (.quiet hH (faddr_sound hv (hF.ev x) w))
 case indexAddr t x i=>
  simp only[Option.map_eq_some_iff] at h
  obtain⟨v',hv,he⟩:=h
  cases he
  exact .ofV rfl (.quiet hH (iaddr_sound hv hH (hF.ev x) (hF.ev i)))
 case index t x i=>
  simp only[Option.map_eq_some_iff] at h
  obtain⟨v',hv,he⟩:=h
  cases he
  exact .ofV rfl (.quiet hH (index_sound hv (hF.ev x) (hF.ev i) w))
 case extract x n=>
  simp only[Option.map_eq_some_iff] at h
  obtain⟨v',hv,he⟩:=h
  cases he
  exact .ofV rfl (.quiet hH (ext_sound hv (hF.ev x) w))
 case call c=>
  obtain⟨callee,args,argTypes⟩:=c
  cases callee<;>simp only at h<;>try (cases h;done)
  rename_i b
  obtain⟨s,hs,hout⟩:=builtin_sound (ty:=type) (cs:=args.map fun| .const _=>true|_=>false) h hH (VRs.map hF args)
  obtain⟨u,w',J',h1,h2,h3,h4⟩:=hout
  refine⟨u,w',J',.inl ?_,h2,h3,h4⟩
  have he:execOp ra.eval ⟨dst,.call ⟨.builtin b,args,argTypes⟩,type,pos,after,guard⟩=builtin b argTypes type (args.map fun| .const _=>true|_=>false) (args.map ra.eval):=rfl
  rw[he,hs]
  simp[h1]
end Go.Proofs.Ytoojnagdenoknaa.IL
