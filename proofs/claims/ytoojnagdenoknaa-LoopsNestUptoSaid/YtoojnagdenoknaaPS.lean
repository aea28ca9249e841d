/- The pure layer: the equations by which a walk goes, in bundles. Nothing here speaks of a given program. -/
import Derived.Test.YtoojnagdenoknaaPE0
set_option linter.unusedSimpArgs false
set_option linter.unusedSectionVars false
set_option linter.unnecessarySimpa false
set_option linter.unusedVariables false
set_option linter.defProp false
set_option maxRecDepth 10000
namespace Go.Proofs.Ytoojnagdenoknaa.IL
open Go Go.RowKit PL
theorem cells_sc:(∀b,(IV.bool b).cells=some [.bool b])∧(∀k n,(IV.int k n).cells=some [.int k n])∧(∀s,(IV.str s).cells=some [.str s])∧(IV.nilp.cells=some [.nilp])∧(∀id i o,(IV.pb id i o).cells=some [.pb id i o])∧(∀r i o,(IV.pim r i o).cells=some [.pim r i o])∧(IV.nils.cells=some [.nils])∧
  (∀id i n f,(IV.sb id i n f).cells=some [.sb id i n f])∧(∀r f,(IV.sim r f).cells=some [.sim r f])∧(∀f a b,(IV.fn f a b).cells=some [.fn f a b])∧(IV.nilf.cells=some [.nilf])∧(IV.nili.cells=some [.nili])∧(∀t v,(IV.iface t v).cells=some [.iface t v])∧(∀cs,(IV.agg cs).cells=some cs):=
 ⟨fun _=>rfl,fun _ _=>rfl,fun _=>rfl,rfl,fun _ _ _=>rfl,fun _ _ _=>rfl,rfl,fun _ _ _ _=>rfl,fun _ _=>rfl,fun _ _ _=>rfl,rfl,rfl,fun _ _=>rfl,fun _=>rfl⟩
theorem ifill_nil(place:Nat→Option (Nat×Nat))(cs:List IV):ifill place cs []=some cs:=rfl
theorem ifill_cons(place:Nat→Option (Nat×Nat))(cs:List IV)(i:Nat)(v:IV)(rest:List (Nat×IV)):ifill place cs ((i,v)::rest)=match place i,v.cells with
  |some (off,sz),some xs=>if xs.length=sz∧off+xs.length≤cs.length then ifill place (splice cs off xs) rest else none
  |_,_=>none:=by
 rw[ifill];rfl
theorem irows_nil(E:Nat)(rows:List (List IV)):irows E rows []=some rows:=rfl
theorem irows_cons(E:Nat)(rows:List (List IV))(i:Nat)(v:IV)(rest:List (Nat×IV)):irows E rows ((i,v)::rest)=match v.cells with
  |some cs=>if cs.length=E∧i<rows.length then irows E (rows.set i cs) rest else none
  |none=>none:=by
 rw[irows];rfl
theorem splice_def(c:IV)(cs:List IV)(o:Nat)(xs:List IV):splice (c::cs) o xs=(c::cs).take o++xs++(c::cs).drop (o+xs.length):=rfl
theorem ipart_agg(sz off:Nat)(c:IV)(cs:List IV):ipart true sz off (c::cs)=if off+sz≤(c::cs).length then some (.agg (((c::cs).drop off).take sz)) else none:=rfl
theorem conv_int{P:Program}{H:Heap}{s d:TypeId}{C D:TC}{k k':IntKind}{n:Int}(hs:tc P s=some C)(hd:tc P d=some D)(hk:D.kd= .int k'):iconvH P H s d (.int k n)=some (.int k' (k'.wrap n)):=by simp[iconvH,iconv,hs,hd,hk]
theorem zd{P:Program}{t e:TypeId}{C:TC}{rows:List (List IV)}{f:Bool}(ht:tc P t=some C)(hk:C.kd= .slice e):ilen P t (.sim rows f)=some (.int .i64 (rows.length:Int)):=by simp[ilen,ht,hk]
theorem len_str{P:Program}{t:TypeId}{C:TC}{x:ByteArray}(ht:tc P t=some C)(hk:C.kd= .string):ilen P t (.str x)=some (.int .i64 (x.size:Int)):=by simp[ilen,ht,hk]
theorem bin_shl'{P:Program}{t:TypeId}{k k':IntKind}{a b c:Int}{y:Bool}(h:shl k a b=some c):ibin P .shl t (.int k a) (.int k' b) y=some (.int k c):=by
 unfold shl at h
 split at h
 ·cases h
 ·rename_i h0;cases h;simp[h0]
theorem kU{P:Program}{t:TypeId}{k k':IntKind}{a b c:Int}{y:Bool}(h:shr k a b=some c):ibin P .shr t (.int k a) (.int k' b) y=some (.int k c):=by
 unfold shr at h
 split at h
 ·cases h
 ·rename_i h0;cases h;simp[h0]
theorem bin_bool{P:Program}{t:TypeId}{C:TC}(ht:tc P t=some C)(hk:C.kd= .bool):(∀a b y:Bool,ibin P .eql t (.bool a) (.bool b) y=some (.bool (a==b)))∧ ∀a b y:Bool,ibin P .neq t (.bool a) (.bool b) y=some (.bool (a !=b)):=by
 constructor<;>intro a b y<;>cases a<;>cases b<;>simp[ibin,ht,ieqO,hk]
theorem imk_some{P:Program}{H:Heap}{d:Nat}{t e:TypeId}{C D:TC}{k k':IntKind}{α:Type}{f:α→List IV}{z:α}{n:Int}{xs:List α}(ht:tc P t=some C)(hk:C.kd= .slice e)(he:tc P e=some D)(hz:D.zero=some (f z))(hE:(f z).length=D.size)(hB:D.bytes≤32768)(h:PL.mk n z=some xs):
  imk P H d t (.int k n) (.int k' n)=some (.sb ⟨d,H.next d⟩ 0 xs.length true,.new ⟨D.size,xs.map f⟩):=by
 unfold PL.mk at h
 split at h
 ·rename_i hn
  cases h
  have hb:(D.bytes:Int)*n≤140737488355328:=by
   have h1:(D.bytes:Int)≤32768:=by omega
   exact Int.le_trans (Int.mul_le_mul_of_nonneg_right h1 hn.1) (by omega)
  simp only[imk,imake,ht,hk,he,hz]
  rw[if_pos ⟨hn.1,Int.le_refl _,hb,by omega,hE⟩]
  simp
 ·cases h
theorem istore_bx(P:Program)(H:Heap)(t k g i o:Nat)(v:IV):istore P H t (.pb ⟨k,g⟩ i o) v=match tc P t,v.cells with
  |some C,some cs=>match H.get ⟨k,g⟩ with
   |none=>none
   |some b=>match b.rows[i]? with
    |none=>none
    |some row=>if cs.length=C.size∧o+cs.length≤row.length∧(∀x∈cs,x.one=true) then some (.put ⟨k,g⟩ ⟨b.E,b.rows.set i (splice row o cs)⟩) else none
  |_,_=>none:=by
 unfold istore
 cases tc P t<;>cases v.cells<;>rfl
theorem rowOf_pb(H:Heap)(id:Id)(i o:Nat):rowOf H (.pb id i o)=(H.get id).bind fun b=>(b.rows[i]?).map fun r=>(r,o):=rfl
theorem rowOf_pim1(H:Heap)(r:List IV)(o:Nat):rowOf H (.pim [r] 0 o)=some (r,o):=rfl
theorem bin_and'{P:Program}{t:TypeId}{k:IntKind}{a b:Int}{c:Bool}:ibin P .and t (.int k a) (.int k b) c=some (.int k (band k a b)):=bin_and
theorem bin_or'{P:Program}{t:TypeId}{k:IntKind}{a b:Int}{c:Bool}:ibin P .or t (.int k a) (.int k b) c=some (.int k (bor k a b)):=bin_or
theorem bin_xor'{P:Program}{t:TypeId}{k:IntKind}{a b:Int}{c:Bool}:ibin P .xor t (.int k a) (.int k b) c=some (.int k (bxor k a b)):=bin_xor
theorem bin_andNot'{P:Program}{t:TypeId}{k:IntKind}{a b:Int}{c:Bool}:ibin P .andNot t (.int k a) (.int k b) c=some (.int k (bclr k a b)):=bin_andNot
theorem Fzs.at{H:Heap}{cs cs':List IV}(h:Fzs H cs cs'):cs.length=cs'.length∧ ∀(k:Nat) (v v':IV),cs[k]?=some v→cs'[k]?=some v'→Fz H v v':=by
 induction h with
 |nil=>exact⟨rfl,fun k v v' h=>by simp at h⟩
 |cons h k ih=>
  refine⟨by simp[ih.1],fun n v v' h1 h2=>?_⟩
  cases n with
  |zero=>simp at h1 h2;subst h1;subst h2;exact h
  |succ n=>exact ih.2 n v v' (by simpa using h1) (by simpa using h2)
theorem Fz_agg{H:Heap}{cs cs':List IV}(h:Fzs H cs cs'):Fz H (.agg cs) (.agg cs'):= .agg h.at.1 h.at.2
theorem Fz_tup{H:Heap}{cs cs':List IV}(h:Fzs H cs cs'):Fz H (.tup cs) (.tup cs'):= .tup h.at.1 h.at.2
theorem kr{H:Heap}{id:Id}{E:Nat}{cs cs':List IV}(hb:H.get id=some ⟨E,[cs]⟩)(h:Fzs H cs cs'):Fz H (.pb id 0 0) (.pim [cs'] 0 0):=by
 have key:=h.at
 refine .pb hb (by simp) (fun r row row' h1 h2=>?_) (fun r row row' c v v' h1 h2 h3 h4=>?_)
 ·cases r with
  |zero=>simp at h1 h2;subst h1;subst h2;exact key.1
  |succ r=>simp at h1
 ·cases r with
  |zero=>simp at h1 h2;subst h1;subst h2;exact key.2 c v v' h3 h4
  |succ r=>simp at h1
theorem ment_all:(∀i o id j,ment (.pb i o id) j=decide (i=j))∧(∀i o n f j,ment (.sb i o n f) j=decide (i=j))∧(∀b j,ment (.bool b) j=false)∧(∀k n j,ment (.int k n) j=false)∧(∀s j,ment (.str s) j=false)∧(∀j,ment .nilp j=false)∧(∀r i o j,ment (.pim r i o) j=false)∧
  (∀j,ment .nils j=false)∧(∀r f j,ment (.sim r f) j=false)∧(∀l j,ment (.agg l) j=false)∧(∀l j,ment (.tup l) j=false)∧(∀f x y j,ment (.fn f x y) j=false)∧(∀j,ment .nilf j=false)∧(∀j,ment .sime j=false):=by
 refine⟨fun i o id j=>?_,fun i o n f j=>?_,fun _ _=>rfl,fun _ _ _=>rfl,fun _ _=>rfl,fun _=>rfl,fun _ _ _ _=>rfl,fun _=>rfl,fun _ _ _=>rfl,fun _ _=>rfl,fun _ _=>rfl,fun _ _ _ _=>rfl,fun _=>rfl,fun _=>rfl⟩<;>simp[ment]<;>exact eq_comm
theorem opn_all:(∀t x,(Op.load t x).operands.toList=[x])∧(∀t x i,(Op.indexAddr t x i).operands.toList=[x,i])∧(∀t x y,(Op.store t x y).operands.toList=[x,y]):=⟨fun _ _=>rfl,fun _ _ _=>rfl,fun _ _ _=>rfl⟩
theorem bb:((true==true)=true)∧((true==false)=false)∧((false==true)=false)∧((false==false)=true):=⟨rfl,rfl,rfl,rfl⟩
def S0:=And.intro @callV_yld (And.intro @callY_text (And.intro @okM_put (And.intro @okM_putS (And.intro @putM_text (And.intro @putM_open (And.intro @putM_strict (And.intro @put_b (And.intro @fr0_b (And.intro @app_move (And.intro @app_new (And.intro @app_none (And.intro @app_put (And.intro @bin_add (And.intro @bin_and' (And.intro @bin_andNot' (And.intro @bin_eql (And.intro @bin_geq (And.intro @bin_gtr (And.intro @bin_leq (And.intro @bin_lss (And.intro @bin_mul (And.intro @bin_neq (And.intro @bin_or' (And.intro @bin_quo (And.intro @bin_rem (And.intro @bin_seql (And.intro @bin_shl (And.intro @bin_shr (And.intro @bin_sneq (And.intro @bin_sub (And.intro @bin_xor' (And.intro @callV_fn (And.intro @condK_false (And.intro @condK_true (And.intro @ev_bool (And.intro @ev_func (And.intro @ev_int (And.intro @ev_nilf (And.intro @ev_nili (And.intro @ev_nilp (And.intro @ev_nils (And.intro @ev_string (And.intro @ev_tmp (And.intro @fr0_get (And.intro @fr0_n (And.intro @heap_del (And.intro @kY (And.intro @heap_fresh (And.intro @heap_new (And.intro @zzX (And.intro @heap_nil (And.intro @heap_nil_next (And.intro @ke (And.intro @zzW (And.intro @inil_pb (And.intro @inil_pim (And.intro @ipart_false (And.intro @ipick_bool (And.intro @okM_move (And.intro @okM_new (And.intro @okM_none (And.intro @okM_text (And.intro @one_bool (And.intro @one_fn (And.intro @one_iface (And.intro @one_int (And.intro @one_nilf (And.intro @one_nili (And.intro @one_nilp (And.intro @one_nils (And.intro @one_pb (And.intro @one_pim (And.intro @one_sb (And.intro @one_sim (And.intro @one_str (And.intro @push_open (And.intro @push_text (And.intro @putK_some (And.intro @zzL (And.intro @put_n (And.intro @someK_some (And.intro @valK_some (And.intro @vcO_drop (And.intro @vcO_drop0 (And.intro @vcO_dropN (And.intro @vcO_take (And.intro @vcO_take0 (And.intro @vcO_takeN (And.intro @vcOps_alloc (And.intro @vcOps_append (And.intro @vcOps_assign (And.intro @vcOps_bin (And.intro @vcOps_box (And.intro @vcOps_bslice (And.intro @vcOps_build (And.intro @vcOps_call (And.intro @vcOps_call0 (And.intro @vcOps_conv (And.intro @vcOps_copy (And.intro @vcOps_ext (And.intro @vcOps_faddr (And.intro @vcOps_func (And.intro @vcOps_guard (And.intro @vcOps_iaddr (And.intro @vcOps_index (And.intro @vcOps_len (And.intro @vcOps_load (And.intro @vcOps_make (And.intro @vcOps_max (And.intro @vcOps_min (And.intro @vcOps_move (And.intro @vcOps_nil (And.intro @zzA (And.intro @vcOps_pick (And.intro @vcOps_slice (And.intro @vcOps_store (And.intro @vcOps_un (And.intro @wantK_false (And.intro @wantK_true (And.intro @u_reads (And.intro @u_ibsl (And.intro @u_ibslice (And.intro @u_Fr_has (And.intro @u_Fr_putO (And.intro @u_gd (And.intro @u_ialloc (And.intro @u_ibox (And.intro @u_iun (And.intro @u_iload (And.intro @rowOf_pb (And.intro @rowOf_pim1 (And.intro @u_ifaddr (And.intro @u_iext (And.intro @istore_bx (And.intro @u_imax (And.intro @u_ibuild (@u_ibuildK)))))))))))))))))))))))))))))))))))))))))))))))))))))))))))))))))))))))))))))))))))))))))))))))))))))))))))))))))))))))))))))))))))))))))
def S1:=And.intro @List.getElem?_cons_zero.{0} (And.intro @List.getElem?_cons_succ.{0} (And.intro @List.map_cons.{0,0} (And.intro @List.map_nil.{0,0} (And.intro @List.length_cons.{0} (And.intro @List.length_nil.{0} (And.intro @List.length_map.{0,0} (And.intro @List.cons_append.{0} (And.intro @List.nil_append.{0} (And.intro @List.append_nil.{0} (And.intro @List.take_succ_cons.{0} (And.intro @List.take_zero.{0} (And.intro @List.take_nil.{0} (And.intro @List.drop_succ_cons.{0} (And.intro @List.drop_zero.{0} (And.intro @List.drop_nil.{0} (And.intro @List.set_cons_zero.{0} (And.intro @List.set_cons_succ.{0} (And.intro @List.replicate_succ.{0} (And.intro @List.replicate_zero.{0} (And.intro @List.getD_cons_zero.{0} (And.intro @List.getD_cons_succ.{0} (And.intro @List.getElem?_toArray.{0} (And.intro @List.getElem?_nil.{0} (And.intro @List.mem_cons.{0} (And.intro @List.not_mem_nil.{0} (And.intro @Option.bind_some.{0,0} (And.intro @Option.map_some.{0,0} (@Option.getD_some.{0}))))))))))))))))))))))))))))
def S2:=And.intro @Nat.add_assoc (And.intro @Nat.add_left_cancel_iff (And.intro @false_implies (And.intro @true_implies (And.intro @and_true (And.intro @true_and (And.intro @and_false (And.intro @false_and (And.intro @or_true (And.intro @true_or (And.intro @or_false (And.intro @false_or (And.intro @not_false_eq_true (And.intro @not_true_eq_false (And.intro @implies_true.{1} (And.intro @decide_true (And.intro @decide_false (And.intro @Bool.not_true (And.intro @Bool.not_false (And.intro @Bool.true_and (And.intro @Bool.and_true (And.intro @Bool.false_and (And.intro @Bool.and_false (And.intro @Bool.true_or (And.intro @Bool.or_true (And.intro @Bool.false_or (And.intro @Bool.or_false (And.intro @Id.mk.injEq (And.intro @Option.some.injEq.{0} (And.intro @eq_self.{1} (And.intro @Nat.add_zero (And.intro @Nat.zero_add (And.intro @ite_true.{1} (And.intro @ite_false.{1} (And.intro @forall_eq_or_imp.{1} (And.intro @forall_eq.{1} (And.intro @forall_const.{1} (And.intro @Bool.false_eq_true (And.intro @Bool.not_not (@List.forall_mem_cons.{0})))))))))))))))))))))))))))))))))))))))
def S3:=And.intro @opn_all (And.intro @ment_all (And.intro @bb (And.intro @cells_sc (And.intro @ifill_nil (And.intro @ifill_cons (And.intro @irows_nil (And.intro @irows_cons (And.intro @splice_def (And.intro @ipart_agg (And.intro @sEnc (And.intro @sS (And.intro @Kp_refl (And.intro @KH_refl (@Same_refl))))))))))))))
end Go.Proofs.Ytoojnagdenoknaa.IL
