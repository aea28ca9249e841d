/- The code of functions computes the pure ones. Printed by tq.py. -/
import Derived.Test.YtodafoajkajnkaaQT
import Derived.Test.YtodafoajkajnkaaQU
import Derived.Test.YtodafoajkajnkaaSL
import Derived.Test.YtodafoajkajnkaaOrdP
set_option linter.unusedVariables false
set_option linter.unusedSimpArgs false
set_option linter.defProp false
set_option maxRecDepth 100000
set_option maxHeartbeats 2000000
namespace Go.Proofs.Ytodafoajkajnkaa.IL
open Go Go.RowKit PL
open Nat renaming reduceLT → n1, reduceEqDiff → n2, reduceAdd → n3, reduceLeDiff → n4, reduceMul → n5
open Int renaming reduceEq → n6

def R9i : Rp ByteArray := Ri eStr 1 (fun _ => rfl) cl_eStr
theorem R9i_nl : R9i.nl := nl_i

def R58i : Rp Opd := Ri eOpd 4 (fun _ => rfl) cl_eOpd
theorem R58i_nl : R58i.nl := nl_i

def R3i : Rp Int := Ri eInt 1 (fun _ => rfl) cl_eInt
theorem R3i_nl : R3i.nl := nl_i

def R37si : Rp (List Int) := Rs R3i
theorem R37si_nl : R37si.nl := nl_s R3i_nl

def R64si : Rp (List ByteArray) := Rs R9i
theorem R64si_nl : R64si.nl := nl_s R9i_nl

def R23si : Rp (List Opd) := Rs R58i
theorem R23si_nl : R23si.nl := nl_s R58i_nl

def R66t5si8si9sie : Rp Ins := Rc (Ri (fun x : Ins => [.int .i64 x.op, .int .i64 x.dst.kind, .int .i64 x.dst.cls, .int .i64 x.dst.n, .int .i64 x.dst.tag]) 5 (fun _ => rfl) (fun x => (cl_cons (closed_int _ _) rfl (cl_cons (closed_int _ _) rfl (cl_cons (closed_int _ _) rfl (cl_cons (closed_int _ _) rfl (cl_cons (closed_int _ _) rfl cl_nil))))))) (fun x => x) (Rc R23si (fun x : Ins => x.args) (Rc (Ri (fun x : Ins => [.str x.name, .int .i64 x.off]) 2 (fun _ => rfl) (fun x => (cl_cons (closed_str _) rfl (cl_cons (closed_int _ _) rfl cl_nil)))) (fun x => x) (Rc R64si (fun x : Ins => x.labels) (Rc R37si (fun x : Ins => x.cases) (Rn)))))
theorem R66t5si8si9sie_nl : R66t5si8si9sie.nl := (nl_c nl_i (nl_c R23si_nl (nl_c nl_i (nl_c R64si_nl (nl_c R37si_nl nl_n)))))
theorem R66t5si8si9sie_o {F : SA} {L : List SA} {H : Heap} {row : List IV} {x : Ins} (n : Nat) (hs : HS F L H) (hn : L[n]? = some (R66t5si8si9sie.p row x)) : ∃ w0 w1 w2, row = [.int .i64 x.op, .int .i64 x.dst.kind, .int .i64 x.dst.cls, .int .i64 x.dst.n, .int .i64 x.dst.tag, w0, .str x.name, .int .i64 x.off, w1, w2] ∧ HS F (sl R3i w2 x.cases :: sl R9i w1 x.labels :: sl R58i w0 x.args :: L.eraseIdx n) H := by
  obtain ⟨c0a, c0b, rfl, hs⟩ := hs.opc n hn
  obtain ⟨rfl, hs⟩ := hs.opi 0 rfl
  obtain ⟨c1a, c1b, rfl, hs⟩ := hs.opc 0 rfl
  obtain ⟨w0, rfl, hs⟩ := hs.ops 0 rfl
  obtain ⟨c2a, c2b, rfl, hs⟩ := hs.opc 1 rfl
  obtain ⟨rfl, hs⟩ := hs.opi 0 rfl
  obtain ⟨c3a, c3b, rfl, hs⟩ := hs.opc 0 rfl
  obtain ⟨w1, rfl, hs⟩ := hs.ops 0 rfl
  obtain ⟨c4a, c4b, rfl, hs⟩ := hs.opc 1 rfl
  obtain ⟨w2, rfl, hs⟩ := hs.ops 0 rfl
  obtain ⟨rfl, hs⟩ := hs.opn 1 rfl
  exact ⟨w0, w1, w2, rfl, hs⟩
theorem R66t5si8si9sie_f {x : Ins} {w0 w1 w2 : IV} (p : Part) (h : Sep [sl R58i w0 x.args, sl R9i w1 x.labels, sl R3i w2 x.cases] p) : R66t5si8si9sie.p [.int .i64 x.op, .int .i64 x.dst.kind, .int .i64 x.dst.cls, .int .i64 x.dst.n, .int .i64 x.dst.tag, w0, .str x.name, .int .i64 x.off, w1, w2] x p := (fc_i (fc_s (fc_i (fc_s (fc_s fold_n))))) p h

def R31ssi : Rp (List (List Int)) := Rs R37si
theorem R31ssi_nl : R31ssi.nl := nl_s R37si_nl

def R108t0ssi1ssie : Rp graph_Graph := Rc R31ssi (fun x : graph_Graph => x.succ) (Rc R31ssi (fun x : graph_Graph => x.pred) (Rn))
theorem R108t0ssi1ssie_nl : R108t0ssi1ssie.nl := (nl_c R31ssi_nl (nl_c R31ssi_nl nl_n))
theorem R108t0ssi1ssie_o {F : SA} {L : List SA} {H : Heap} {row : List IV} {x : graph_Graph} (n : Nat) (hs : HS F L H) (hn : L[n]? = some (R108t0ssi1ssie.p row x)) : ∃ w0 w1, row = [w0, w1] ∧ HS F (sl R37si w1 x.pred :: sl R37si w0 x.succ :: L.eraseIdx n) H := by
  obtain ⟨c0a, c0b, rfl, hs⟩ := hs.opc n hn
  obtain ⟨w0, rfl, hs⟩ := hs.ops 0 rfl
  obtain ⟨c1a, c1b, rfl, hs⟩ := hs.opc 1 rfl
  obtain ⟨w1, rfl, hs⟩ := hs.ops 0 rfl
  obtain ⟨rfl, hs⟩ := hs.opn 1 rfl
  exact ⟨w0, w1, rfl, hs⟩
theorem R108t0ssi1ssie_f {x : graph_Graph} {w0 w1 : IV} (p : Part) (h : Sep [sl R37si w0 x.succ, sl R37si w1 x.pred] p) : R108t0ssi1ssie.p [w0, w1] x p := (fc_s (fc_s fold_n)) p h

def R63i : Rp Bl := Ri eBl 4 (fun _ => rfl) cl_eBl
theorem R63i_nl : R63i.nl := nl_i

def R114i : Rp Int := Ri (eI .u64) 1 (fun _ => rfl) (cl_eI .u64)
theorem R114i_nl : R114i.nl := nl_i

def R115si : Rp (List Int) := Rs R114i
theorem R115si_nl : R115si.nl := nl_s R114i_nl

def R117t1sie : Rp bits_Set := Rc (Ri (fun x : bits_Set => [.int .i64 x.n]) 1 (fun _ => rfl) (fun x => (cl_cons (closed_int _ _) rfl cl_nil))) (fun x => x) (Rc R115si (fun x : bits_Set => x.words) (Rn))
theorem R117t1sie_nl : R117t1sie.nl := (nl_c nl_i (nl_c R115si_nl nl_n))
theorem R117t1sie_o {F : SA} {L : List SA} {H : Heap} {row : List IV} {x : bits_Set} (n : Nat) (hs : HS F L H) (hn : L[n]? = some (R117t1sie.p row x)) : ∃ w0, row = [.int .i64 x.n, w0] ∧ HS F (sl R114i w0 x.words :: L.eraseIdx n) H := by
  obtain ⟨c0a, c0b, rfl, hs⟩ := hs.opc n hn
  obtain ⟨rfl, hs⟩ := hs.opi 0 rfl
  obtain ⟨c1a, c1b, rfl, hs⟩ := hs.opc 0 rfl
  obtain ⟨w0, rfl, hs⟩ := hs.ops 0 rfl
  obtain ⟨rfl, hs⟩ := hs.opn 1 rfl
  exact ⟨w0, rfl, hs⟩
theorem R117t1sie_f {x : bits_Set} {w0 : IV} (p : Part) (h : Sep [sl R114i w0 x.words] p) : R117t1sie.p [.int .i64 x.n, w0] x p := (fc_i (fc_s fold_n)) p h

def R41i : Rp (A2 Int) := Ri (eA2 eInt) 2 (fun _ => rfl) (cl_eA2 cl_eInt)
theorem R41i_nl : R41i.nl := nl_i

def R34si : Rp (List (A2 Int)) := Rs R41i
theorem R34si_nl : R34si.nl := nl_s R41i_nl

def R44bt1sie : Rp bits_Set := Rb R117t1sie
theorem R44bt1sie_nl : R44bt1sie.nl := nl_b R117t1sie_nl

def R84i : Rp Rg := Ri eRg 2 (fun _ => rfl) cl_eRg
theorem R84i_nl : R84i.nl := nl_i

def R63t2sie : Rp Bl := Rc (Ri (fun x : Bl => [.str x.label, .bool x.edge]) 2 (fun _ => rfl) (fun x => (cl_cons (closed_str _) rfl (cl_cons (closed_bool _) rfl cl_nil)))) (fun x => x) (Rc R23si (fun x : Bl => x.ins) (Rc (Ri (fun x : Bl => [.sim (x.code.map eIns) false]) 1 (fun _ => rfl) (fun x => (cl_cons (cl_map cl_eIns _) rfl cl_nil))) (fun x => x) (Rn)))
theorem R63t2sie_nl : R63t2sie.nl := (nl_c nl_i (nl_c R23si_nl (nl_c nl_i nl_n)))
theorem R63t2sie_o {F : SA} {L : List SA} {H : Heap} {row : List IV} {x : Bl} (n : Nat) (hs : HS F L H) (hn : L[n]? = some (R63t2sie.p row x)) : ∃ w0, row = [.str x.label, .bool x.edge, w0, .sim (x.code.map eIns) false] ∧ HS F (sl R58i w0 x.ins :: L.eraseIdx n) H := by
  obtain ⟨c0a, c0b, rfl, hs⟩ := hs.opc n hn
  obtain ⟨rfl, hs⟩ := hs.opi 0 rfl
  obtain ⟨c1a, c1b, rfl, hs⟩ := hs.opc 0 rfl
  obtain ⟨w0, rfl, hs⟩ := hs.ops 0 rfl
  obtain ⟨c2a, c2b, rfl, hs⟩ := hs.opc 1 rfl
  obtain ⟨rfl, hs⟩ := hs.opi 0 rfl
  obtain ⟨rfl, hs⟩ := hs.opn 0 rfl
  exact ⟨w0, rfl, hs⟩
theorem R63t2sie_f {x : Bl} {w0 : IV} (p : Part) (h : Sep [sl R58i w0 x.ins] p) : R63t2sie.p [.str x.label, .bool x.edge, w0, .sim (x.code.map eIns) false] x p := (fc_i (fc_s (fc_i fold_n))) p h

def R24st2sie : Rp (List Bl) := Rs R63t2sie
theorem R24st2sie_nl : R24st2sie.nl := nl_s R63t2sie_nl

def R125t4st2sie7sie : Rp dyehouseref12_maker := Rc (Ri (fun x : dyehouseref12_maker => [.bool x.f.machine, .str x.f.name, .sim (x.f.regs.map eRg) false, .sim (x.f.params.map eOpd) false]) 4 (fun _ => rfl) (fun x => (cl_cons (closed_bool _) rfl (cl_cons (closed_str _) rfl (cl_cons (cl_map cl_eRg _) rfl (cl_cons (cl_map cl_eOpd _) rfl cl_nil)))))) (fun x => x) (Rc R24st2sie (fun x : dyehouseref12_maker => x.f.blocks) (Rc (Ri (fun x : dyehouseref12_maker => [.sim (x.ids.a0.map eInt) false, .sim (x.ids.a1.map eInt) false]) 2 (fun _ => rfl) (fun x => (cl_cons (cl_map cl_eInt _) rfl (cl_cons (cl_map cl_eInt _) rfl cl_nil)))) (fun x => x) (Rc R37si (fun x : dyehouseref12_maker => x.has) (Rn))))
theorem R125t4st2sie7sie_nl : R125t4st2sie7sie.nl := (nl_c nl_i (nl_c R24st2sie_nl (nl_c nl_i (nl_c R37si_nl nl_n))))
theorem R125t4st2sie7sie_o {F : SA} {L : List SA} {H : Heap} {row : List IV} {x : dyehouseref12_maker} (n : Nat) (hs : HS F L H) (hn : L[n]? = some (R125t4st2sie7sie.p row x)) : ∃ w0 w1, row = [.bool x.f.machine, .str x.f.name, .sim (x.f.regs.map eRg) false, .sim (x.f.params.map eOpd) false, w0, .sim (x.ids.a0.map eInt) false, .sim (x.ids.a1.map eInt) false, w1] ∧ HS F (sl R3i w1 x.has :: sl R63t2sie w0 x.f.blocks :: L.eraseIdx n) H := by
  obtain ⟨c0a, c0b, rfl, hs⟩ := hs.opc n hn
  obtain ⟨rfl, hs⟩ := hs.opi 0 rfl
  obtain ⟨c1a, c1b, rfl, hs⟩ := hs.opc 0 rfl
  obtain ⟨w0, rfl, hs⟩ := hs.ops 0 rfl
  obtain ⟨c2a, c2b, rfl, hs⟩ := hs.opc 1 rfl
  obtain ⟨rfl, hs⟩ := hs.opi 0 rfl
  obtain ⟨c3a, c3b, rfl, hs⟩ := hs.opc 0 rfl
  obtain ⟨w1, rfl, hs⟩ := hs.ops 0 rfl
  obtain ⟨rfl, hs⟩ := hs.opn 1 rfl
  exact ⟨w0, w1, rfl, hs⟩
theorem R125t4st2sie7sie_f {x : dyehouseref12_maker} {w0 w1 : IV} (p : Part) (h : Sep [sl R63t2sie w0 x.f.blocks, sl R3i w1 x.has] p) : R125t4st2sie7sie.p [.bool x.f.machine, .str x.f.name, .sim (x.f.regs.map eRg) false, .sim (x.f.params.map eOpd) false, w0, .sim (x.ids.a0.map eInt) false, .sim (x.ids.a1.map eInt) false, w1] x p := (fc_i (fc_s (fc_i (fc_s fold_n)))) p h

def R37i : Rp (List Int) := Ri (eS eInt) 1 (fun _ => rfl) (cl_eS cl_eInt)
theorem R37i_nl : R37i.nl := nl_i

def R4i : Rp Bool := Ri eBool 1 (fun _ => rfl) cl_eBool
theorem R4i_nl : R4i.nl := nl_i

theorem xOpd (x : Opd) : eOpd x = [.int .i64 x.kind, .int .i64 x.cls, .int .i64 x.n, .int .i64 x.tag] := rfl

theorem w_dyehouseref12_Many {fuel : Nat} {d_1 : Drf} {r0_ : Bool} (h : p_dyehouseref12_Many fuel d_1 = some r0_) : Pure1 Try.prog 30 [.agg (eDrf d_1)] (.bool r0_) := by
  refine Pure1_S (all_cl (cl_agg (cl_eDrf _)) all_cl0) fun F H s0 => ?_
  refine U_call 0 Try.func30 rfl (by kernel_rfl) (by simp [Try.ntmps30]) ?_
  rw [Try.ntmps30]
  refine U_fr 30 [(0, .agg (eDrf d_1))] rfl rfl rfl ?_
  unfold p_dyehouseref12_Many at h
  refine U_seq ?_
  refine U_reg ?_
  simp only [SQ, ty54, sDrf, n1, n2, n3, n4, n5, n6]
  refine N_box s0 rfl fun d1 H1 s1 => ?_
  simp only [SQ, n1, n2, n3, n4, n5, n6]
  refine hold_intro ?_
  refine U_seq ?_
  refine U_reg ?_
  simp only [SQ, n1, n2, n3, n4, n5, n6]
  refine hold_intro ?_
  refine U_seq ?_
  refine U_seq ?_
  refine U_reg ?_
  simp only [SQ, n1, n2, n3, n4, n5, n6]
  refine hold_intro ?_
  refine U_fr 30 [(1, .pb d1 0 0), (3, .int .i64 0), (4, .int .i64 0)] rfl rfl rfl ?_
  obtain ⟨nv_2, he1, h⟩ := bndO h
  obtain ⟨hhi1, hlo1, he1⟩ := toN_facts he1
  refine U_cut (fun a' H' => Fi a' 30 [(1, .pb d1 0 0), (3, .int .i64 nv_2)] ∧ HS F [pt d1 ⟨4, [eDrf d_1]⟩] H') (U_block (U_loop (fun z_ a' H' => match z_ with | (i1, nv_1) => forN ((d_1.blocks.length : Int) - i1).toNat i1 (fun i s => p_dyehouseref12_Many_b1 fuel d_1 i s) nv_1 = some nv_2 ∧ 0 ≤ i1 ∧ Fi a' 30 [(1, .pb d1 0 0), (3, .int .i64 nv_1), (4, .int .i64 i1)] ∧ HS F [pt d1 ⟨4, [eDrf d_1]⟩] H' : (Int × Int) → Fr → Heap → Prop) (fun z_ : Int × Int => ((d_1.blocks.length : Int) - z_.1).toNat) (0, 0) ?_ ?_)) ?_
  · exact ⟨he1, Int.le_refl _, ⟨rfl, rfl, rfl⟩, s1⟩
  ·
    rintro ⟨i1, nv_1⟩ a1 H2 ⟨hf1, hl1, f1, s2⟩
    refine U_fi f1 ?_
    by_cases hlt1 : i1 < (d_1.blocks.length : Int)
    ·
      obtain ⟨u2, hr1, hl2⟩ := forN_step hf1 hlt1
      replace hr1 : p_dyehouseref12_Many_b1 fuel d_1 i1 nv_1 = some u2 := hr1
      unfold p_dyehouseref12_Many_b1 at hr1
      have hw1 := wrap_next hlt1 hhi1 hlo1 hl1
      have hlt1_t : decide (i1 < (d_1.blocks.length : Int)) = true := decide_eq_true hlt1
      refine U_seq (U_seq ?_)
      refine U_reg ?_
      simp only [SQ, ty54, ty52, s2.b 0 rfl, sDrf, len_sim ty52 rfl, hw1, hlt1_t, n1, n2, n3, n4, n5, n6]
      refine hold_intro ?_
      refine U_condT (by simp only [SQ, hw1, hlt1_t, n1, n2, n3, n4, n5, n6]) (U_skip ?_)
      refine U_seq ?_
      refine U_block ?_
      obtain ⟨x1, kx1, hr1⟩ := bndO hr1
      refine U_reg ?_
      simp only [SQ, ty54, ty52, s2.b 0 rfl, sDrf, ty122, iia_sim (f := eDBl) ty52 rfl ty122 kx1 rfl, row_sim (f := eDBl) kx1, sDBl, ty120, len_sim ty120 rfl, hw1, hlt1_t, n1, n2, n3, n4, n5, n6]
      refine hold_intro ?_
      refine U_reg ?_
      simp only [SQ, hw1, hlt1_t, n1, n2, n3, n4, n5, n6]
      refine hold_intro ?_
      replace hr1 := Option.some.inj hr1
      subst hr1
      refine ⟨(i1 + 1, IntKind.wrap .i64 ((IntKind.wrap .i64 (nv_1 + 1)) + (x1.code.length : Int))), ?_, hl2, Int.le_add_one hl1, ⟨rfl, rfl, by first | rfl | simp only [SQ, hw1, hlt1_t, n1, n2, n3, n4, n5, n6]⟩, s2⟩
      show ((d_1.blocks.length : Int) - (i1 + 1)).toNat < ((d_1.blocks.length : Int) - i1).toNat; omega
    ·
      have hlt1_e := forN_end hf1 hlt1
      have hlt1_t : decide (i1 < (d_1.blocks.length : Int)) = false := decide_eq_false hlt1
      refine U_seq (U_seq ?_)
      refine U_reg ?_
      simp only [SQ, ty54, ty52, s2.b 0 rfl, sDrf, len_sim ty52 rfl, hlt1_t, n1, n2, n3, n4, n5, n6]
      refine hold_intro ?_
      refine U_condF (by simp only [SQ, hlt1_t, n1, n2, n3, n4, n5, n6]) (U_exit rfl ?_)
      cases hlt1_e
      exact ⟨⟨rfl, rfl, by first | rfl | simp only [SQ, hlt1_t, n1, n2, n3, n4, n5, n6]⟩, s2⟩
  ·
    rintro a2 H3 ⟨f2, s3⟩
    refine U_fi f2 ?_
    refine U_seq ?_
    refine U_cut (fun a' H' => Fi a' 30 [(2, .bool ((decide (9 < (d_1.blocks.length : Int))) || (decide (60 < nv_2))))] ∧ H3 = H') ?_ ?_
    · refine U_reg ?_
      rcases Bool.eq_false_or_eq_true (decide (9 < (d_1.blocks.length : Int))) with hb1 | hb1
      ·
        simp only [SQ, ty54, ty52, s3.b 0 rfl, sDrf, len_sim ty52 rfl, hb1, n1, n2, n3, n4, n5, n6]
        refine hold_intro ?_
        exact ⟨⟨rfl, rfl, by first | rfl | simp only [SQ, hb1, n1, n2, n3, n4, n5, n6]⟩, rfl⟩
      ·
        simp only [SQ, ty54, ty52, s3.b 0 rfl, sDrf, len_sim ty52 rfl, hb1, n1, n2, n3, n4, n5, n6]
        refine hold_intro ?_
        exact ⟨⟨rfl, rfl, by first | rfl | simp only [SQ, hb1, n1, n2, n3, n4, n5, n6]⟩, rfl⟩
    · rintro a3 _ ⟨f3, rfl⟩
      refine U_fi f3 ?_
      refine U_ret ?_
      replace h := Option.some.inj h
      subst h
      refine ⟨.bool ((decide (9 < (d_1.blocks.length : Int))) || (decide (60 < nv_2))), by simp only [ires, iress, Try.results30, SQ, List.toList_toArray, n1, n2, n3, n4, n5, n6], ?_⟩
      exact .cl (closed_bool _)

theorem w_dyehouselaw19_works_1_1 {fuel : Nat} {l_1 : List ByteArray} {r0_ : List Ins} (h : p_dyehouselaw19_works_1_v2 fuel l_1 = some r0_) {v0_ : IV} : CallS Try.prog 75 [v0_] [sl R9i v0_ l_1] (fun r L => (r = (.sim (r0_.map eIns) false) ∧ L = [])) := by
  intro F H s0
  refine U_call 0 Try.func75 rfl (by kernel_rfl) (by simp [Try.ntmps75]) ?_
  rw [Try.ntmps75]
  refine U_fr 6 [(0, v0_)] rfl rfl rfl ?_
  unfold p_dyehouselaw19_works_1_v2 at h
  refine U_seq ?_
  refine U_reg ?_
  simp only [SQ, n1, n2, n3, n4, n5, n6]
  refine hold_intro ?_
  refine U_seq ?_
  refine U_reg ?_
  simp only [SQ, ty66, s0.cf 0 rfl, fk66, ty61, n1, n2, n3, n4, n5, n6]
  refine N_lit s0 rfl fun d1 H1 s1 => ?_
  have s2 := s1.nil' R58i
  have s3 := s2.nil' R3i
  have s4 := s3.fold [2, 1, 3, 0] 4 (by decide) (fold_lit (R := R66t5si8si9sie) (xs := ([(⟨21, (⟨0, 0, 0, 0⟩ : Opd), ([] : List Opd), (⟨#[]⟩ : ByteArray), 0, l_1, ([] : List Int)⟩ : Ins)] : List Ins)) rfl rfl rfl (lit_cons (R66t5si8si9sie_f (x := (⟨21, (⟨0, 0, 0, 0⟩ : Opd), ([] : List Opd), (⟨#[]⟩ : ByteArray), 0, l_1, ([] : List Int)⟩ : Ins))) lit_nil))
  simp only [SQ, n1, n2, n3, n4, n5, n6]
  refine hold_intro ?_
  refine U_fr 6 [(2, .sb d1 0 1 true)] rfl rfl rfl ?_
  refine U_fzS (l' := [(2, .sim (([(⟨21, (⟨0, 0, 0, 0⟩ : Opd), ([] : List Opd), (⟨#[]⟩ : ByteArray), 0, l_1, ([] : List Int)⟩ : Ins)] : List Ins).map eIns) false)]) (M := []) 0 s4 rfl R66t5si8si9sie_nl (.x .o .id) .id fun H2 s5 => ?_
  refine U_ret ?_
  replace h := Option.some.inj h
  subst h
  exact ⟨.sim (([(⟨21, (⟨0, 0, 0, 0⟩ : Opd), ([] : List Opd), (⟨#[]⟩ : ByteArray), 0, l_1, ([] : List Int)⟩ : Ins)] : List Ins).map eIns) false, by simp only [ires, iress, Try.results75, SQ, List.toList_toArray, n1, n2, n3, n4, n5, n6], _, ⟨rfl, rfl⟩, s5.sel [] (by decide)⟩

theorem w_op_Last {fuel : Nat} {op_1 : Int} {r0_ : Bool} (h : p_op_Last fuel op_1 = some r0_) : Pure1 Try.prog 127 [.int .i64 op_1] (.bool r0_) := by
  refine Pure1_S (all_cl (closed_int _ _) all_cl0) fun F H s0 => ?_
  refine U_call 0 Try.func127 rfl (by kernel_rfl) (by simp [Try.ntmps127]) ?_
  rw [Try.ntmps127]
  refine U_fr 9 [(0, .int .i64 op_1)] rfl rfl rfl ?_
  unfold p_op_Last at h
  refine U_seq ?_
  refine U_reg ?_
  simp only [SQ, n1, n2, n3, n4, n5, n6]
  refine hold_intro ?_
  refine U_seq ?_
  refine U_fr 9 [(0, .int .i64 op_1), (2, .bool false)] rfl rfl rfl ?_
  refine U_cut (fun a' H' => Fi a' 9 [(2, .bool ((decide (20 ≤ op_1)) && (decide (op_1 ≤ 23))))] ∧ H = H') ?_ ?_
  · refine U_reg ?_
    rcases Bool.eq_false_or_eq_true (decide (20 ≤ op_1)) with hb1 | hb1
    ·
      simp only [SQ, hb1, n1, n2, n3, n4, n5, n6]
      refine hold_intro ?_
      exact ⟨⟨rfl, rfl, by first | rfl | simp only [SQ, hb1, n1, n2, n3, n4, n5, n6]⟩, rfl⟩
    ·
      simp only [SQ, hb1, n1, n2, n3, n4, n5, n6]
      refine hold_intro ?_
      exact ⟨⟨rfl, rfl, by first | rfl | simp only [SQ, hb1, n1, n2, n3, n4, n5, n6]⟩, rfl⟩
  · rintro a1 _ ⟨f1, rfl⟩
    refine U_fi f1 ?_
    refine U_ret ?_
    replace h := Option.some.inj h
    subst h
    refine ⟨.bool ((decide (20 ≤ op_1)) && (decide (op_1 ≤ 23))), by simp only [ires, iress, Try.results127, SQ, List.toList_toArray, n1, n2, n3, n4, n5, n6], ?_⟩
    exact .cl (closed_bool _)

theorem w_graph_last {fuel : Nat} {b_1 : Bl} {r0_ : Ins} {r1_ : Bool} (h : p_graph_last fuel b_1 = some (r0_, r1_)) : Pure1 Try.prog 76 [.agg (eBl b_1)] (.tup [.agg (eIns r0_), .bool r1_]) := by
  refine Pure1_S (all_cl (cl_agg (cl_eBl _)) all_cl0) fun F H s0 => ?_
  refine U_call 0 Try.func76 rfl (by kernel_rfl) (by simp [Try.ntmps76]) ?_
  rw [Try.ntmps76]
  refine U_fr 22 [(0, .agg (eBl b_1))] rfl rfl rfl ?_
  unfold p_graph_last at h
  refine U_seq ?_
  refine U_reg ?_
  simp only [SQ, ty63, sBl, n1, n2, n3, n4, n5, n6]
  refine N_box s0 rfl fun d1 H1 s1 => ?_
  simp only [SQ, ty66, n1, n2, n3, n4, n5, n6]
  refine N_box s1 rfl fun d2 H2 s2 => ?_
  simp only [SQ, n1, n2, n3, n4, n5, n6]
  refine hold_intro ?_
  refine U_seq ?_
  refine U_seq ?_
  refine U_reg ?_
  simp only [SQ, ty63, ty61, s2.b 1 rfl, sBl, len_sim ty61 rfl, n1, n2, n3, n4, n5, n6]
  refine hold_intro ?_
  rcases Bool.eq_false_or_eq_true (decide ((b_1.code.length : Int) = 0)) with hb1 | hb1
  ·
    rw [if_pos hb1] at h
    refine U_condT (by simp only [SQ, hb1, n1, n2, n3, n4, n5, n6]) ?_
    refine U_seq ?_
    refine U_reg ?_
    simp only [SQ, ty66, fk66, s2.b 0 rfl, hb1, n1, n2, n3, n4, n5, n6]
    refine N_put 0 s2 rfl fun H3 s3 => ?_
    simp only [SQ, hb1, n1, n2, n3, n4, n5, n6]
    refine hold_intro ?_
    refine U_ret ?_
    replace h := Option.some.inj h
    obtain ⟨q1, q2⟩ := Prod.mk.inj h
    clear h
    subst q1
    subst q2
    refine ⟨.tup [.agg [.int .i64 0, .int .i64 0, .int .i64 0, .int .i64 0, .int .i64 0, .nils, .str (⟨#[]⟩ : ByteArray), .int .i64 0, .nils, .nils], .bool false], by simp only [ires, iress, Try.results76, SQ, List.toList_toArray, s3.b 0 rfl, ty66, hb1, n1, n2, n3, n4, n5, n6], ?_⟩
    exact Fz_tup (.cons (Fz_agg (.cons (.cl (closed_int _ _)) (.cons (.cl (closed_int _ _)) (.cons (.cl (closed_int _ _)) (.cons (.cl (closed_int _ _)) (.cons (.cl (closed_int _ _)) (.cons (.nils) (.cons (.cl (closed_str _)) (.cons (.cl (closed_int _ _)) (.cons (.nils) (.cons (.nils) (.nil)))))))))))) (.cons (.cl (closed_bool _)) (.nil)))
  ·
    rw [if_neg (by rw [hb1]; decide)] at h
    refine U_condF (by simp only [SQ, hb1, n1, n2, n3, n4, n5, n6]) ?_
    refine U_skip ?_
    refine U_seq ?_
    obtain ⟨x1, kx1, h⟩ := bndO h
    refine U_reg ?_
    simp only [SQ, ty63, ty61, s2.b 1 rfl, sBl, len_sim ty61 rfl, ty66, iia_sim (f := eIns) ty61 rfl ty66 kx1 rfl, row_sim (f := eIns) kx1, sIns, hb1, n1, n2, n3, n4, n5, n6]
    refine N_box s2 rfl fun d3 H4 s4 => ?_
    simp only [SQ, ty66, sIns, splice_all', s4.b 0 rfl, hb1, n1, n2, n3, n4, n5, n6]
    refine N_put 0 s4 rfl fun H5 s5 => ?_
    simp only [SQ, hb1, n1, n2, n3, n4, n5, n6]
    refine hold_intro ?_
    refine U_seq ?_
    refine U_fr 22 [(2, .pb d2 0 0), (3, .bool false), (4, .pb d3 0 0)] rfl rfl rfl ?_
    obtain ⟨r1, kr1, h⟩ := bndO h
    refine U_drawQ hm [0, 0, 2, 6, 15, 31] false 4 (by decide +kernel) (by decide) ?_
    simp only [SQ, ty66, s5.b 0 rfl, sIns, ty3, hb1, n1, n2, n3, n4, n5, n6]
    refine callP (w_op_Last kr1) ?_
    simp only [SQ, ty66, sIns, splice_all', s5.b 1 rfl, hb1, n1, n2, n3, n4, n5, n6]
    refine N_put 1 s5 rfl fun H6 s6 => ?_
    simp only [SQ, hb1, n1, n2, n3, n4, n5, n6]
    refine hold_intro ?_
    refine U_ret ?_
    replace h := Option.some.inj h
    obtain ⟨q3, q4⟩ := Prod.mk.inj h
    clear h
    subst q3
    subst q4
    refine ⟨.tup [.agg (eIns x1), .bool r1], by simp only [ires, iress, Try.results76, SQ, List.toList_toArray, s6.b 1 rfl, sIns, ty66, hb1, n1, n2, n3, n4, n5, n6], ?_⟩
    exact Fz_tup (.cons (.cl (cl_agg (cl_eIns _))) (.cons (.cl (closed_bool _)) (.nil)))

theorem w_ir_Find_1 {fuel : Nat} {b_1 : Bl} {p_1 : ByteArray} {r0_ : Bool} (h : p_ir_Find_1 fuel b_1 p_1 = some r0_) : Pure1 Try.prog 109 [.agg (eBl b_1), .pim [eStr p_1] 0 0] (.bool r0_) := by
  refine Pure1_S (all_cl (cl_agg (cl_eBl _)) (all_cl (cl_pim1 cl_eStr _) all_cl0)) fun F H s0 => ?_
  refine U_call 0 Try.func109 rfl (by kernel_rfl) (by simp [Try.ntmps109]) ?_
  rw [Try.ntmps109]
  refine U_fr 8 [(0, .agg (eBl b_1)), (1, .pim [eStr p_1] 0 0)] rfl rfl rfl ?_
  unfold p_ir_Find_1 at h
  refine U_seq ?_
  refine U_reg ?_
  simp only [SQ, ty63, sBl, n1, n2, n3, n4, n5, n6]
  refine N_box s0 rfl fun d1 H1 s1 => ?_
  simp only [SQ, n1, n2, n3, n4, n5, n6]
  refine hold_intro ?_
  refine U_seq ?_
  refine U_reg ?_
  simp only [SQ, ty63, ty9, s1.b 0 rfl, sBl, n1, n2, n3, n4, n5, n6]
  refine hold_intro ?_
  refine U_ret ?_
  replace h := Option.some.inj h
  subst h
  refine ⟨.bool (decide (b_1.label = p_1)), by simp only [ires, iress, Try.results109, SQ, List.toList_toArray, n1, n2, n3, n4, n5, n6], ?_⟩
  exact .cl (closed_bool _)

theorem w_slices_IndexFunc_api_Block_api_Block_at_ir_Find_1 {fuel : Nat} {s_1 : List Bl} {w1 : ByteArray} {r0_ : Int} (h : p_slices_IndexFunc_api_Block_api_Block_at_ir_Find_1 fuel s_1 w1 = some r0_) : Pure1 Try.prog 108 [.sim (s_1.map eBl) false, .fn (.func 109) [] [.pim [eStr w1] 0 0]] (.int .i64 r0_) := by
  refine Pure1_S (all_cl (cl_map cl_eBl s_1) (all_cl (closed_fnc (all_cl0) ((all_cl (cl_pim1 cl_eStr _) all_cl0))) all_cl0)) fun F H s0 => ?_
  refine U_call 0 Try.func108 rfl (by kernel_rfl) (by simp [Try.ntmps108]) ?_
  rw [Try.ntmps108]
  refine U_fr 19 [(0, .sim (s_1.map eBl) false), (1, .fn (.func 109) [] [.pim [eStr w1] 0 0])] rfl rfl rfl ?_
  unfold p_slices_IndexFunc_api_Block_api_Block_at_ir_Find_1 at h
  refine U_seq ?_
  refine U_reg ?_
  simp only [SQ, n1, n2, n3, n4, n5, n6]
  refine hold_intro ?_
  refine U_seq ?_
  refine U_seq ?_
  refine U_reg ?_
  simp only [SQ, len_sim ty24 rfl, n1, n2, n3, n4, n5, n6]
  refine hold_intro ?_
  refine U_fr 19 [(0, .sim (s_1.map eBl) false), (1, .fn (.func 109) [] [.pim [eStr w1] 0 0]), (7, .int .i64 (s_1.length : Int)), (8, .int .i64 0)] rfl rfl rfl ?_
  obtain ⟨u1, he1, h⟩ := bndE h
  refine U_cut (fun a' H' => ∃ x_1 : Int, u1 = .n x_1 ∧ Fi a' 19 [(1, .fn (.func 109) [] [.pim [eStr w1] 0 0])] ∧ HS F [] H') (U_block (U_loop (fun z_ a' H' => match z_ with | (m1, x_1) => loopE m1 (fun s => p_slices_IndexFunc_api_Block_api_Block_at_ir_Find_1_b1 fuel s_1 w1 s) x_1 = some u1 ∧ Fi a' 19 [(0, .sim (s_1.map eBl) false), (1, .fn (.func 109) [] [.pim [eStr w1] 0 0]), (7, .int .i64 (s_1.length : Int)), (8, .int .i64 x_1)] ∧ HS F [] H' : (Nat × Int) → Fr → Heap → Prop) (fun z_ : Nat × Int => z_.1) (fuel, 0) ?_ ?_)) ?_
  · exact ⟨he1, ⟨rfl, rfl, rfl⟩, s0⟩
  ·
    rintro ⟨m1, x_1⟩ a1 H1 ⟨hf1, f1, s1⟩
    refine U_fi f1 ?_
    obtain ⟨m1', m1_lt, u2, hr1, hl2⟩ := loopE_step hf1
    replace hr1 : p_slices_IndexFunc_api_Block_api_Block_at_ir_Find_1_b1 fuel s_1 w1 x_1 = some u2 := hr1
    unfold p_slices_IndexFunc_api_Block_api_Block_at_ir_Find_1_b1 at hr1
    refine U_seq ?_
    refine U_reg ?_
    simp only [SQ, n1, n2, n3, n4, n5, n6]
    refine hold_intro ?_
    refine U_seq ?_
    rcases Bool.eq_false_or_eq_true (decide (x_1 < (s_1.length : Int))) with hb1 | hb1
    ·
      rw [if_pos hb1] at hr1
      refine U_condT (by simp only [SQ, hb1, n1, n2, n3, n4, n5, n6]) ?_
      refine U_skip ?_
      refine U_seq ?_
      refine U_block ?_
      refine U_seq ?_
      refine U_reg ?_
      simp only [SQ, hb1, n1, n2, n3, n4, n5, n6]
      refine hold_intro ?_
      refine U_seq ?_
      obtain ⟨x1, kx1, hr1⟩ := bndO hr1
      obtain ⟨r1, kr1, hr1⟩ := bndO hr1
      refine U_reg ?_
      simp only [SQ, ty24, ty63, iia_sim (f := eBl) ty24 rfl ty63 kx1 rfl, row_sim (f := eBl) kx1, sBl, hb1, n1, n2, n3, n4, n5, n6]
      refine callP (w_ir_Find_1 kr1) ?_
      simp only [SQ, hb1, n1, n2, n3, n4, n5, n6]
      refine hold_intro ?_
      rcases Bool.eq_false_or_eq_true (r1) with hb2 | hb2
      ·
        rw [if_pos hb2] at hr1
        refine U_condT (by simp only [SQ, hb1, hb2, n1, n2, n3, n4, n5, n6]) ?_
        refine U_seq ?_
        refine U_fr 19 [(1, .fn (.func 109) [] [.pim [eStr w1] 0 0]), (5, .int .i64 x_1)] rfl rfl rfl ?_
        refine U_reg ?_
        simp only [SQ, hb1, hb2, n1, n2, n3, n4, n5, n6]
        refine hold_intro ?_
        refine U_ret ?_
        replace hr1 := Option.some.inj hr1
        subst hr1
        replace hl2 : u1 = .r _ := hl2
        subst hl2
        replace h := outE_r h
        replace h := Option.some.inj h
        subst h
        refine ⟨.int .i64 x_1, by simp only [ires, iress, Try.results108, SQ, List.toList_toArray, hb1, hb2, n1, n2, n3, n4, n5, n6], ?_⟩
        exact .cl (closed_int _ _)
      ·
        rw [if_neg (by rw [hb2]; decide)] at hr1
        refine U_condF (by simp only [SQ, hb1, hb2, n1, n2, n3, n4, n5, n6]) ?_
        refine U_skip ?_
        refine U_reg ?_
        simp only [SQ, hb1, hb2, n1, n2, n3, n4, n5, n6]
        refine hold_intro ?_
        replace hr1 := Option.some.inj hr1
        subst hr1
        exact ⟨(m1', IntKind.wrap .i64 (x_1 + 1)), m1_lt, hl2, ⟨rfl, rfl, by first | rfl | simp only [SQ, hb1, hb2, n1, n2, n3, n4, n5, n6]⟩, s1⟩
    ·
      rw [if_neg (by rw [hb1]; decide)] at hr1
      refine U_condF (by simp only [SQ, hb1, n1, n2, n3, n4, n5, n6]) ?_
      refine U_exit rfl ?_
      replace hr1 := Option.some.inj hr1
      subst hr1
      exact ⟨_, hl2, ⟨rfl, rfl, by first | rfl | simp only [SQ, hb1, n1, n2, n3, n4, n5, n6]⟩, s1⟩
  ·
    rintro a2 H2 ⟨x_2, rfl, f2, s2⟩
    replace h := outE_n h
    refine U_fi f2 ?_
    refine U_seq ?_
    refine U_reg ?_
    simp only [SQ, n1, n2, n3, n4, n5, n6]
    refine hold_intro ?_
    refine U_ret ?_
    replace h := Option.some.inj h
    subst h
    refine ⟨.int .i64 (-1), by simp only [ires, iress, Try.results108, SQ, List.toList_toArray, n1, n2, n3, n4, n5, n6], ?_⟩
    exact .cl (closed_int _ _)

theorem w_ir_Find {fuel : Nat} {f_1 : Fnc} {label_1 : ByteArray} {r0_ : Int} (h : p_ir_Find fuel f_1 label_1 = some r0_) : Pure1 Try.prog 52 [.agg (eFnc f_1), .str label_1] (.int .i64 r0_) := by
  refine Pure1_S (all_cl (cl_agg (cl_eFnc _)) (all_cl (closed_str _) all_cl0)) fun F H s0 => ?_
  refine U_call 0 Try.func52 rfl (by kernel_rfl) (by simp [Try.ntmps52]) ?_
  rw [Try.ntmps52]
  refine U_fr 9 [(0, .agg (eFnc f_1)), (1, .str label_1)] rfl rfl rfl ?_
  unfold p_ir_Find at h
  refine U_seq ?_
  refine U_reg ?_
  simp only [SQ, ty26, sFnc, n1, n2, n3, n4, n5, n6]
  refine N_box s0 rfl fun d1 H1 s1 => ?_
  simp only [SQ, ty9, n1, n2, n3, n4, n5, n6]
  refine N_box s1 rfl fun d2 H2 s2 => ?_
  simp only [SQ, n1, n2, n3, n4, n5, n6]
  refine hold_intro ?_
  refine U_seq ?_
  obtain ⟨r1, kr1, h⟩ := bndO h
  refine U_reg ?_
  simp only [SQ, ty26, ty24, s2.b 1 rfl, sFnc, n1, n2, n3, n4, n5, n6]
  refine callLd (w_slices_IndexFunc_api_Block_api_Block_at_ir_Find_1 kr1) (.cons (.cl (cl_map cl_eBl f_1.blocks)) (.cons (Fz_fn (.cons (Fz_box (s2.pt 0 rfl) (.cons (.cl (closed_str _)) (.nil))) (.nil))) (.nil))) (flat_int _ _) ?_
  simp only [SQ, n1, n2, n3, n4, n5, n6]
  refine hold_intro ?_
  refine U_ret ?_
  replace h := Option.some.inj h
  subst h
  refine ⟨.int .i64 r1, by simp only [ires, iress, Try.results52, SQ, List.toList_toArray, n1, n2, n3, n4, n5, n6], ?_⟩
  exact .cl (closed_int _ _)

theorem w_slices_Index_int_int {fuel : Nat} {s_1 : List Int} {v_1 : Int} {r0_ : Int} (h : p_slices_Index_int_int fuel s_1 v_1 = some r0_) : Pure1 Try.prog 128 [.sim (s_1.map eInt) false, .int .i64 v_1] (.int .i64 r0_) := by
  refine Pure1_S (all_cl (cl_map cl_eInt s_1) (all_cl (closed_int _ _) all_cl0)) fun F H s0 => ?_
  refine U_call 0 Try.func128 rfl (by kernel_rfl) (by simp [Try.ntmps128]) ?_
  rw [Try.ntmps128]
  refine U_fr 19 [(0, .sim (s_1.map eInt) false), (1, .int .i64 v_1)] rfl rfl rfl ?_
  unfold p_slices_Index_int_int at h
  refine U_seq ?_
  refine U_reg ?_
  simp only [SQ, n1, n2, n3, n4, n5, n6]
  refine hold_intro ?_
  refine U_seq ?_
  refine U_seq ?_
  refine U_reg ?_
  simp only [SQ, len_sim ty37 rfl, n1, n2, n3, n4, n5, n6]
  refine hold_intro ?_
  refine U_fr 19 [(0, .sim (s_1.map eInt) false), (1, .int .i64 v_1), (7, .int .i64 (s_1.length : Int)), (8, .int .i64 0)] rfl rfl rfl ?_
  obtain ⟨u1, he1, h⟩ := bndE h
  refine U_cut (fun a' H' => ∃ x_1 : Int, u1 = .n x_1 ∧ Fi a' 19 [] ∧ HS F [] H') (U_block (U_loop (fun z_ a' H' => match z_ with | (m1, x_1) => loopE m1 (fun s => p_slices_Index_int_int_b1 fuel s_1 v_1 s) x_1 = some u1 ∧ Fi a' 19 [(0, .sim (s_1.map eInt) false), (1, .int .i64 v_1), (7, .int .i64 (s_1.length : Int)), (8, .int .i64 x_1)] ∧ HS F [] H' : (Nat × Int) → Fr → Heap → Prop) (fun z_ : Nat × Int => z_.1) (fuel, 0) ?_ ?_)) ?_
  · exact ⟨he1, ⟨rfl, rfl, rfl⟩, s0⟩
  ·
    rintro ⟨m1, x_1⟩ a1 H1 ⟨hf1, f1, s1⟩
    refine U_fi f1 ?_
    obtain ⟨m1', m1_lt, u2, hr1, hl2⟩ := loopE_step hf1
    replace hr1 : p_slices_Index_int_int_b1 fuel s_1 v_1 x_1 = some u2 := hr1
    unfold p_slices_Index_int_int_b1 at hr1
    refine U_seq ?_
    refine U_reg ?_
    simp only [SQ, n1, n2, n3, n4, n5, n6]
    refine hold_intro ?_
    refine U_seq ?_
    rcases Bool.eq_false_or_eq_true (decide (x_1 < (s_1.length : Int))) with hb1 | hb1
    ·
      rw [if_pos hb1] at hr1
      refine U_condT (by simp only [SQ, hb1, n1, n2, n3, n4, n5, n6]) ?_
      refine U_skip ?_
      refine U_seq ?_
      refine U_block ?_
      refine U_seq ?_
      refine U_reg ?_
      simp only [SQ, hb1, n1, n2, n3, n4, n5, n6]
      refine hold_intro ?_
      refine U_seq ?_
      obtain ⟨x1, kx1, hr1⟩ := bndO hr1
      refine U_reg ?_
      simp only [SQ, ty37, ty3, iia_sim (f := eInt) ty37 rfl ty3 kx1 rfl, row_sim (f := eInt) kx1, hb1, n1, n2, n3, n4, n5, n6]
      refine hold_intro ?_
      rcases Bool.eq_false_or_eq_true (decide (v_1 = x1)) with hb2 | hb2
      ·
        rw [if_pos hb2] at hr1
        refine U_condT (by simp only [SQ, hb1, hb2, n1, n2, n3, n4, n5, n6]) ?_
        refine U_seq ?_
        refine U_fr 19 [(5, .int .i64 x_1)] rfl rfl rfl ?_
        refine U_reg ?_
        simp only [SQ, hb1, hb2, n1, n2, n3, n4, n5, n6]
        refine hold_intro ?_
        refine U_ret ?_
        replace hr1 := Option.some.inj hr1
        subst hr1
        replace hl2 : u1 = .r _ := hl2
        subst hl2
        replace h := outE_r h
        replace h := Option.some.inj h
        subst h
        refine ⟨.int .i64 x_1, by simp only [ires, iress, Try.results128, SQ, List.toList_toArray, hb1, hb2, n1, n2, n3, n4, n5, n6], ?_⟩
        exact .cl (closed_int _ _)
      ·
        rw [if_neg (by rw [hb2]; decide)] at hr1
        refine U_condF (by simp only [SQ, hb1, hb2, n1, n2, n3, n4, n5, n6]) ?_
        refine U_skip ?_
        refine U_reg ?_
        simp only [SQ, hb1, hb2, n1, n2, n3, n4, n5, n6]
        refine hold_intro ?_
        replace hr1 := Option.some.inj hr1
        subst hr1
        exact ⟨(m1', IntKind.wrap .i64 (x_1 + 1)), m1_lt, hl2, ⟨rfl, rfl, by first | rfl | simp only [SQ, hb1, hb2, n1, n2, n3, n4, n5, n6]⟩, s1⟩
    ·
      rw [if_neg (by rw [hb1]; decide)] at hr1
      refine U_condF (by simp only [SQ, hb1, n1, n2, n3, n4, n5, n6]) ?_
      refine U_exit rfl ?_
      replace hr1 := Option.some.inj hr1
      subst hr1
      exact ⟨_, hl2, ⟨rfl, rfl, by first | rfl | simp only [SQ, hb1, n1, n2, n3, n4, n5, n6]⟩, s1⟩
  ·
    rintro a2 H2 ⟨x_2, rfl, f2, s2⟩
    replace h := outE_n h
    refine U_fi f2 ?_
    refine U_seq ?_
    refine U_reg ?_
    simp only [SQ, n1, n2, n3, n4, n5, n6]
    refine hold_intro ?_
    refine U_ret ?_
    replace h := Option.some.inj h
    subst h
    refine ⟨.int .i64 (-1), by simp only [ires, iress, Try.results128, SQ, List.toList_toArray, n1, n2, n3, n4, n5, n6], ?_⟩
    exact .cl (closed_int _ _)

theorem w_slices_Contains_int_int {fuel : Nat} {s_1 : List Int} {v_1 : Int} {r0_ : Bool} (h : p_slices_Contains_int_int fuel s_1 v_1 = some r0_) : Pure1 Try.prog 77 [.sim (s_1.map eInt) false, .int .i64 v_1] (.bool r0_) := by
  refine Pure1_S (all_cl (cl_map cl_eInt s_1) (all_cl (closed_int _ _) all_cl0)) fun F H s0 => ?_
  refine U_call 0 Try.func77 rfl (by kernel_rfl) (by simp [Try.ntmps77]) ?_
  rw [Try.ntmps77]
  refine U_fr 9 [(0, .sim (s_1.map eInt) false), (1, .int .i64 v_1)] rfl rfl rfl ?_
  unfold p_slices_Contains_int_int at h
  refine U_seq ?_
  refine U_reg ?_
  simp only [SQ, n1, n2, n3, n4, n5, n6]
  refine hold_intro ?_
  refine U_seq ?_
  obtain ⟨r1, kr1, h⟩ := bndO h
  refine U_reg ?_
  simp only [SQ, n1, n2, n3, n4, n5, n6]
  refine callP (w_slices_Index_int_int kr1) ?_
  simp only [SQ, n1, n2, n3, n4, n5, n6]
  refine hold_intro ?_
  refine U_ret ?_
  replace h := Option.some.inj h
  subst h
  refine ⟨.bool (decide (0 ≤ r1)), by simp only [ires, iress, Try.results77, SQ, List.toList_toArray, n1, n2, n3, n4, n5, n6], ?_⟩
  exact .cl (closed_bool _)

theorem w_graph_New {fuel : Nat} {f_1 : Fnc} {r0_ : graph_Graph} (h : p_graph_New fuel f_1 = some r0_) : Pure1 Try.prog 15 [.agg (eFnc f_1)] (.pim [egraph_Graph r0_] 0 0) := by
  refine Pure1_S (all_cl (cl_agg (cl_eFnc _)) all_cl0) fun F H s0 => ?_
  refine U_call 0 Try.func15 rfl (by kernel_rfl) (by simp [Try.ntmps15]) ?_
  rw [Try.ntmps15]
  refine U_fr 95 [(0, .agg (eFnc f_1))] rfl rfl rfl ?_
  unfold p_graph_New at h
  refine U_seq ?_
  refine U_reg ?_
  simp only [SQ, ty26, sFnc, n1, n2, n3, n4, n5, n6]
  refine N_box s0 rfl fun d1 H1 s1 => ?_
  simp only [SQ, n1, n2, n3, n4, n5, n6]
  refine hold_intro ?_
  refine U_seq ?_
  obtain ⟨l1, kl1, h⟩ := bndO h
  obtain ⟨l2, kl2, h⟩ := bndO h
  refine U_drawQ hm [0, 1, 3, 7, 0, 16, 48, 112, 255, 511, 1023] false 8 (by decide +kernel) (by decide) ?_
  simp only [SQ, ty26, ty24, s1.b 0 rfl, sFnc, len_sim ty24 rfl, ty31, ty37, imk_zero (d := 14) ty31 rfl ty37 rfl rfl (by decide) kl1, n1, n2, n3, n4, n5, n6]
  refine N_sl l1 R37si s1 rfl rfl (by first | rfl | simp only [SQ]) (by first | rfl | simp only [List.length_map, List.length_replicate]) ((zip_mk kl1 (fun p e => Or.inl ⟨rfl, rfl, e⟩))) ?_
  intro v1 H2 s2
  simp only [SQ, ty26, ty24, s2.b 1 rfl, sFnc, len_sim ty24 rfl, ty31, ty37, imk_zero (d := 18) ty31 rfl ty37 rfl rfl (by decide) kl2, n1, n2, n3, n4, n5, n6]
  refine N_sl l2 R37si s2 rfl rfl (by first | rfl | simp only [SQ]) (by first | rfl | simp only [List.length_map, List.length_replicate]) ((zip_mk kl2 (fun p e => Or.inl ⟨rfl, rfl, e⟩))) ?_
  intro v2 H3 s3
  simp only [SQ, ty108, s3.cf 1 rfl, s3.cf 0 rfl, fk108, n1, n2, n3, n4, n5, n6]
  refine N_box s3 rfl fun d2 H4 s4 => ?_
  simp only [SQ, n1, n2, n3, n4, n5, n6]
  refine hold_intro ?_
  refine U_seq ?_
  refine U_seq ?_
  refine U_fr 95 [(1, .pb d1 0 0), (3, .pb d2 0 0)] rfl rfl rfl ?_
  refine U_reg ?_
  simp only [SQ, ty26, ty24, s4.b 3 rfl, sFnc, len_sim ty24 rfl, n1, n2, n3, n4, n5, n6]
  refine hold_intro ?_
  refine U_fr 95 [(1, .pb d1 0 0), (3, .pb d2 0 0), (22, .sim (f_1.blocks.map eBl) false), (23, .int .i64 (f_1.blocks.length : Int)), (24, .int .i64 0)] rfl rfl rfl ?_
  obtain ⟨u1, he1, h⟩ := bndE h
  refine U_cut (fun a' H' => ∃ x_1 : Int, ∃ c1 : List (List Int), ∃ c2 : List (List Int), u1 = .n (x_1, c1, c2) ∧ Fi a' 95 [(3, .pb d2 0 0)] ∧ HS F [pt d1 ⟨5, [eFnc f_1]⟩, pt d2 ⟨2, [[v1, v2]]⟩, sl R37si v1 c1, sl R37si v2 c2] H') (U_block (U_loop (fun z_ a' H' => match z_ with | (m1, x_1, c1, c2) => loopE m1 (fun s => p_graph_New_b1 fuel f_1 s.1 s.2.1 s.2.2) (x_1, c1, c2) = some u1 ∧ Fi a' 95 [(1, .pb d1 0 0), (3, .pb d2 0 0), (22, .sim (f_1.blocks.map eBl) false), (23, .int .i64 (f_1.blocks.length : Int)), (24, .int .i64 x_1)] ∧ HS F [pt d1 ⟨5, [eFnc f_1]⟩, pt d2 ⟨2, [[v1, v2]]⟩, sl R37si v1 c1, sl R37si v2 c2] H' : (Nat × Int × (List (List Int)) × (List (List Int))) → Fr → Heap → Prop) (fun z_ : Nat × Int × (List (List Int)) × (List (List Int)) => z_.1) (fuel, 0, l1, l2) ?_ ?_)) ?_
  · exact ⟨he1, ⟨rfl, rfl, rfl⟩, s4.sel [3, 0, 2, 1] (by decide)⟩
  ·
    rintro ⟨m1, x_1, c1, c2⟩ a1 H5 ⟨hf1, f1, s5⟩
    refine U_fi f1 ?_
    obtain ⟨m1', m1_lt, u2, hr1, hl2⟩ := loopE_step hf1
    replace hr1 : p_graph_New_b1 fuel f_1 x_1 c1 c2 = some u2 := hr1
    unfold p_graph_New_b1 at hr1
    refine U_seq ?_
    refine U_reg ?_
    simp only [SQ, n1, n2, n3, n4, n5, n6]
    refine hold_intro ?_
    refine U_seq ?_
    rcases Bool.eq_false_or_eq_true (decide (x_1 < (f_1.blocks.length : Int))) with hb1 | hb1
    ·
      rw [if_pos hb1] at hr1
      refine U_condT (by simp only [SQ, hb1, n1, n2, n3, n4, n5, n6]) ?_
      refine U_skip ?_
      refine U_seq ?_
      refine U_fr 95 [(1, .pb d1 0 0), (3, .pb d2 0 0), (22, .sim (f_1.blocks.map eBl) false), (23, .int .i64 (f_1.blocks.length : Int)), (24, .int .i64 x_1)] rfl rfl rfl ?_
      obtain ⟨⟨c5, c6⟩, kj1, hr1⟩ := bndO hr1
      dsimp only at hr1
      refine U_cut (fun a' H' => Fi a' 95 [(1, .pb d1 0 0), (3, .pb d2 0 0), (22, .sim (f_1.blocks.map eBl) false), (23, .int .i64 (f_1.blocks.length : Int)), (24, .int .i64 x_1)] ∧ HS F [pt d1 ⟨5, [eFnc f_1]⟩, pt d2 ⟨2, [[v1, v2]]⟩, sl R37si v1 c5, sl R37si v2 c6] H') ?_ ?_
      ·
        refine U_block ?_
        refine U_seq ?_
        obtain ⟨x1, kx1, kj1⟩ := bndO kj1
        refine U_reg ?_
        simp only [SQ, ty24, ty63, iia_sim (f := eBl) ty24 rfl ty63 kx1 rfl, row_sim (f := eBl) kx1, sBl, hb1, n1, n2, n3, n4, n5, n6]
        refine N_box s5 rfl fun d3 H7 s7 => ?_
        simp only [SQ, ty63, sBl, splice_all', s7.b 0 rfl, hb1, n1, n2, n3, n4, n5, n6]
        refine N_put 0 s7 rfl fun H8 s8 => ?_
        simp only [SQ, hb1, n1, n2, n3, n4, n5, n6]
        refine hold_intro ?_
        refine U_seq ?_
        obtain ⟨⟨r1, r2⟩, kr1, kj1⟩ := bndO kj1
        dsimp only at kj1
        refine U_reg ?_
        simp only [SQ, ty63, s8.b 0 rfl, sBl, hb1, n1, n2, n3, n4, n5, n6]
        refine callP (w_graph_last kr1) ?_
        simp only [SQ, ty66, hb1, n1, n2, n3, n4, n5, n6]
        refine N_box s8 rfl fun d4 H9 s9 => ?_
        simp only [SQ, ty66, sIns, splice_all', s9.b 0 rfl, hb1, n1, n2, n3, n4, n5, n6]
        refine N_put 0 s9 rfl fun H10 s10 => ?_
        simp only [SQ, hb1, n1, n2, n3, n4, n5, n6]
        refine hold_intro ?_
        refine U_seq ?_
        refine U_seq ?_
        refine U_fr 95 [(1, .pb d1 0 0), (3, .pb d2 0 0), (4, .int .i64 x_1), (6, .pb d4 0 0), (7, .bool r2), (22, .sim (f_1.blocks.map eBl) false), (23, .int .i64 (f_1.blocks.length : Int)), (24, .int .i64 x_1)] rfl rfl rfl ?_
        refine U_reg ?_
        simp only [SQ, hb1, n1, n2, n3, n4, n5, n6]
        refine hold_intro ?_
        rcases Bool.eq_false_or_eq_true ((!r2)) with hb2 | hb2
        ·
          rw [if_pos hb2] at kj1
          refine U_condT (by simp only [SQ, hb1, hb2, n1, n2, n3, n4, n5, n6]) ?_
          refine U_exit rfl ?_
          replace kj1 := Option.some.inj kj1
          obtain ⟨q1, q2⟩ := Prod.mk.inj kj1
          clear kj1
          subst q1
          subst q2
          exact ⟨⟨rfl, rfl, by first | rfl | simp only [SQ, hb1, hb2, n1, n2, n3, n4, n5, n6]⟩, s10.sel [2, 3, 4, 5] (by decide)⟩
        ·
          rw [if_neg (by rw [hb2]; decide)] at kj1
          refine U_condF (by simp only [SQ, hb1, hb2, n1, n2, n3, n4, n5, n6]) ?_
          refine U_skip ?_
          refine U_seq ?_
          refine U_reg ?_
          simp only [SQ, ty66, ty64, s10.b 0 rfl, sIns, len_sim ty64 rfl, hb1, hb2, n1, n2, n3, n4, n5, n6]
          refine hold_intro ?_
          refine U_fr 95 [(1, .pb d1 0 0), (3, .pb d2 0 0), (4, .int .i64 x_1), (22, .sim (f_1.blocks.map eBl) false), (23, .int .i64 (f_1.blocks.length : Int)), (24, .int .i64 x_1), (37, .sim (r1.labels.map eStr) false), (38, .int .i64 (r1.labels.length : Int)), (39, .int .i64 0)] rfl rfl rfl ?_
          obtain ⟨u3, he2, kj1⟩ := bndE kj1
          refine U_cut (fun a' H' => ∃ c7 : List (List Int), ∃ c8 : List (List Int), ∃ x_3 : Int, u3 = .n (c7, c8, x_3) ∧ Fi a' 95 [(1, .pb d1 0 0), (3, .pb d2 0 0), (22, .sim (f_1.blocks.map eBl) false), (23, .int .i64 (f_1.blocks.length : Int)), (24, .int .i64 x_1)] ∧ HS F [pt d1 ⟨5, [eFnc f_1]⟩, pt d2 ⟨2, [[v1, v2]]⟩, sl R37si v1 c7, sl R37si v2 c8] H') (U_block (U_loop (fun z_ a' H' => match z_ with | (m2, c7, c8, x_3) => loopE m2 (fun s => p_graph_New_b2 fuel f_1 x_1 r1 s.1 s.2.1 s.2.2) (c7, c8, x_3) = some u3 ∧ Fi a' 95 [(1, .pb d1 0 0), (3, .pb d2 0 0), (4, .int .i64 x_1), (22, .sim (f_1.blocks.map eBl) false), (23, .int .i64 (f_1.blocks.length : Int)), (24, .int .i64 x_1), (37, .sim (r1.labels.map eStr) false), (38, .int .i64 (r1.labels.length : Int)), (39, .int .i64 x_3)] ∧ HS F [pt d1 ⟨5, [eFnc f_1]⟩, pt d2 ⟨2, [[v1, v2]]⟩, sl R37si v1 c7, sl R37si v2 c8] H' : (Nat × (List (List Int)) × (List (List Int)) × Int) → Fr → Heap → Prop) (fun z_ : Nat × (List (List Int)) × (List (List Int)) × Int => z_.1) (fuel, c1, c2, 0) ?_ ?_)) ?_
          · exact ⟨he2, ⟨rfl, rfl, by first | rfl | simp only [SQ, hb1, hb2, n1, n2, n3, n4, n5, n6]⟩, s10.sel [2, 3, 4, 5] (by decide)⟩
          ·
            rintro ⟨m2, c7, c8, x_3⟩ a3 H11 ⟨hf2, f3, s11⟩
            refine U_fi f3 ?_
            obtain ⟨m2', m2_lt, u4, hr2, hl4⟩ := loopE_step hf2
            replace hr2 : p_graph_New_b2 fuel f_1 x_1 r1 c7 c8 x_3 = some u4 := hr2
            unfold p_graph_New_b2 at hr2
            refine U_seq ?_
            refine U_reg ?_
            simp only [SQ, hb1, hb2, n1, n2, n3, n4, n5, n6]
            refine hold_intro ?_
            refine U_seq ?_
            rcases Bool.eq_false_or_eq_true (decide (x_3 < (r1.labels.length : Int))) with hb3 | hb3
            ·
              rw [if_pos hb3] at hr2
              refine U_condT (by simp only [SQ, hb1, hb2, hb3, n1, n2, n3, n4, n5, n6]) ?_
              refine U_skip ?_
              refine U_seq ?_
              refine U_fr 95 [(1, .pb d1 0 0), (3, .pb d2 0 0), (4, .int .i64 x_1), (22, .sim (f_1.blocks.map eBl) false), (23, .int .i64 (f_1.blocks.length : Int)), (24, .int .i64 x_1), (37, .sim (r1.labels.map eStr) false), (38, .int .i64 (r1.labels.length : Int)), (39, .int .i64 x_3)] rfl rfl rfl ?_
              obtain ⟨⟨c11, c12⟩, kj2, hr2⟩ := bndO hr2
              dsimp only at hr2
              refine U_cut (fun a' H' => Fi a' 95 [(1, .pb d1 0 0), (3, .pb d2 0 0), (4, .int .i64 x_1), (22, .sim (f_1.blocks.map eBl) false), (23, .int .i64 (f_1.blocks.length : Int)), (24, .int .i64 x_1), (37, .sim (r1.labels.map eStr) false), (38, .int .i64 (r1.labels.length : Int)), (39, .int .i64 x_3)] ∧ HS F [pt d1 ⟨5, [eFnc f_1]⟩, pt d2 ⟨2, [[v1, v2]]⟩, sl R37si v1 c11, sl R37si v2 c12] H') ?_ ?_
              ·
                refine U_block ?_
                refine U_seq ?_
                obtain ⟨x2, kx2, kj2⟩ := bndO kj2
                refine U_reg ?_
                simp only [SQ, ty64, ty9, iia_sim (f := eStr) ty64 rfl ty9 kx2 rfl, row_sim (f := eStr) kx2, hb1, hb2, hb3, n1, n2, n3, n4, n5, n6]
                refine hold_intro ?_
                refine U_seq ?_
                obtain ⟨r3, kr3, kj2⟩ := bndO kj2
                refine U_reg ?_
                simp only [SQ, ty26, s11.b 0 rfl, sFnc, hb1, hb2, hb3, n1, n2, n3, n4, n5, n6]
                refine callP (w_ir_Find kr3) ?_
                simp only [SQ, hb1, hb2, hb3, n1, n2, n3, n4, n5, n6]
                refine hold_intro ?_
                refine U_seq ?_
                refine U_fr 95 [(1, .pb d1 0 0), (3, .pb d2 0 0), (4, .int .i64 x_1), (10, .int .i64 r3), (22, .sim (f_1.blocks.map eBl) false), (23, .int .i64 (f_1.blocks.length : Int)), (24, .int .i64 x_1), (37, .sim (r1.labels.map eStr) false), (38, .int .i64 (r1.labels.length : Int)), (39, .int .i64 x_3)] rfl rfl rfl ?_
                obtain ⟨b1, kb1, kj2⟩ := bndO kj2
                refine U_cut (fun a' H' => Fi a' 95 [(1, .pb d1 0 0), (3, .pb d2 0 0), (4, .int .i64 x_1), (10, .int .i64 r3), (22, .sim (f_1.blocks.map eBl) false), (23, .int .i64 (f_1.blocks.length : Int)), (24, .int .i64 x_1), (37, .sim (r1.labels.map eStr) false), (38, .int .i64 (r1.labels.length : Int)), (39, .int .i64 x_3), (59, .bool b1)] ∧ HS F [pt d1 ⟨5, [eFnc f_1]⟩, pt d2 ⟨2, [[v1, v2]]⟩, sl R37si v1 c7, sl R37si v2 c8] H') ?_ ?_
                · refine U_reg ?_
                  rcases Bool.eq_false_or_eq_true (decide (0 ≤ r3)) with hb4 | hb4
                  ·
                    have hx1 := hb4
                    rw [if_pos hx1] at kb1
                    obtain ⟨x3, kx3, kb1⟩ := bndO kb1
                    obtain ⟨r5, kr5, kb1⟩ := bndO kb1
                    replace kb1 := Option.some.inj kb1
                    subst kb1
                    obtain ⟨d5, r4, c13, _, s13⟩ := s11.openL (P := Try.prog) (k := .i64) 2 rfl ty31 rfl ty37 rfl kx3
                    obtain ⟨w1, rfl, s14⟩ := s13.ops 1 rfl
                    simp only [SQ, ty108, ty31, s11.b 1 rfl, ty37, s14.hii (P := Try.prog) (k := .i64) 0 rfl ty31 rfl ty37 rfl kx3, s14.hrow 0 rfl, hb1, hb2, hb3, hb4, n1, n2, n3, n4, n5, n6]
                    refine callLd (w_slices_Contains_int_int kr5) (.cons (s14.fzS 1 rfl) (.cons (.cl (closed_int _ _)) (.nil))) (flat_bool _) ?_
                    have s15 := s14.fold [0, 1, 2, 3, 4] 2 (by decide) (fun p h => fold_l0 kx3 (star_mono h (fun _ h => h) (fold_s)))
                    simp only [SQ, hb1, hb2, hb3, hb4, n1, n2, n3, n4, n5, n6]
                    refine hold_intro ?_
                    exact ⟨⟨rfl, rfl, by first | rfl | simp only [SQ, hb1, hb2, hb3, hb4, n1, n2, n3, n4, n5, n6]⟩, s15.sel [1, 2, 0, 3] (by decide)⟩
                  ·
                    have hx2 := hb4
                    rw [if_neg (by rw [hx2]; decide)] at kb1
                    replace kb1 := Option.some.inj kb1
                    subst kb1
                    simp only [SQ, hb1, hb2, hb3, hb4, n1, n2, n3, n4, n5, n6]
                    refine hold_intro ?_
                    exact ⟨⟨rfl, rfl, by first | rfl | simp only [SQ, hb1, hb2, hb3, hb4, n1, n2, n3, n4, n5, n6]⟩, s11⟩
                · rintro a5 H13 ⟨f5, s16⟩
                  refine U_fi f5 ?_
                  rcases Bool.eq_false_or_eq_true (b1) with hb5 | hb5
                  ·
                    rw [if_pos hb5] at kj2
                    refine U_condT (by simp only [SQ, hb1, hb2, hb3, hb5, n1, n2, n3, n4, n5, n6]) ?_
                    refine U_seq ?_
                    refine U_fr 95 [(1, .pb d1 0 0), (3, .pb d2 0 0), (4, .int .i64 x_1), (10, .int .i64 r3), (22, .sim (f_1.blocks.map eBl) false), (23, .int .i64 (f_1.blocks.length : Int)), (24, .int .i64 x_1), (37, .sim (r1.labels.map eStr) false), (38, .int .i64 (r1.labels.length : Int)), (39, .int .i64 x_3)] rfl rfl rfl ?_
                    obtain ⟨x4, kx4, kj2⟩ := bndO kj2
                    obtain ⟨l3, kl3, kj2⟩ := bndO kj2
                    obtain ⟨l4, kl4, kj2⟩ := bndO kj2
                    refine U_drawQ hm [0, 1, 3, 7, 0, 0, 32, 96, 224, 0, 992, 2016, 0, 4096, 16352, 32767, 65535] false 15 (by decide +kernel) (by decide) ?_
                    obtain ⟨d6, r6, c14, _, s17⟩ := s16.openL (P := Try.prog) (k := .i64) 2 rfl ty31 rfl ty37 rfl kx4
                    obtain ⟨w2, rfl, s18⟩ := s17.ops 1 rfl
                    simp only [SQ, ty108, ty31, s16.b 1 rfl, ty37, s18.hii (P := Try.prog) (k := .i64) 0 rfl ty31 rfl ty37 rfl kx4, s18.hrow 0 rfl, ty3, hb1, hb2, hb3, hb5, n1, n2, n3, n4, n5, n6]
                    refine N_sl ([r3] : List Int) R3i s18 rfl rfl (by first | rfl | simp only [SQ]) (by first | rfl | simp only [List.length_map, List.length_replicate]) (zip_flat rfl) ?_
                    intro v3 H14 s19
                    simp only [SQ, ty37, ty3, hb1, hb2, hb3, hb5, n1, n2, n3, n4, n5, n6]
                    refine N_app (xs := x4) (ys := ([r3] : List Int)) 2 s19 rfl rfl ty37 rfl ty37 rfl ty3 rfl rfl rfl (by decide) rfl (s19.srowsi 0 rfl) kl3 (fun _ _ e0 _ _ _ _ e => by cases e0; simp only [SQ, s19.nev 2 0 rfl rfl (by decide) e, s19.neh 2 1 rfl rfl (by decide) e, s19.nes 2 3 rfl rfl (by decide) e, s19.nes 2 4 rfl rfl (by decide) e, s19.nev 2 5 rfl rfl (by decide) e, hb1, hb2, hb3, hb5, n1, n2, n3, n4, n5, n6]) ?_
                    intro v4 H15 s20
                    simp only [SQ, ty31, ty37, s20.hii (P := Try.prog) (k := .i64) 2 rfl ty31 rfl ty37 rfl kx4, s20.cf 0 rfl, hb1, hb2, hb3, hb5, n1, n2, n3, n4, n5, n6]
                    refine N_sth (row' := [v4]) 2 s20 rfl ty37 (s20.cf 0 rfl).1 (by first | rfl | simp only [SQ, s20.cf 0 rfl, hb1, hb2, hb3, hb5, n1, n2, n3, n4, n5, n6]) (by first | decide | simp only [SQ, s20.cf 0 rfl, hb1, hb2, hb3, hb5, n1, n2, n3, n4, n5, n6]) (by simp only [SQ, s20.cf 0 rfl, hb1, hb2, hb3, hb5, n1, n2, n3, n4, n5, n6]) (by first | rfl | simp only [SQ, s20.cf 0 rfl, hb1, hb2, hb3, hb5, n1, n2, n3, n4, n5, n6]) fun H16 s21 => ?_
                    have s22 := s21.fold [2, 0, 1, 3, 4, 5] 2 (by decide) (fun p h => fold_l kl4 (star_mono h (fun _ h => h) (fold_s)))
                    simp only [SQ, hb1, hb2, hb3, hb5, n1, n2, n3, n4, n5, n6]
                    refine hold_intro ?_
                    refine U_fr 95 [(1, .pb d1 0 0), (3, .pb d2 0 0), (4, .int .i64 x_1), (10, .int .i64 r3), (22, .sim (f_1.blocks.map eBl) false), (23, .int .i64 (f_1.blocks.length : Int)), (24, .int .i64 x_1), (37, .sim (r1.labels.map eStr) false), (38, .int .i64 (r1.labels.length : Int)), (39, .int .i64 x_3)] rfl rfl rfl ?_
                    obtain ⟨x5, kx5, kj2⟩ := bndO kj2
                    obtain ⟨l5, kl5, kj2⟩ := bndO kj2
                    obtain ⟨l6, kl6, kj2⟩ := bndO kj2
                    refine U_drawQ hm [0, 1, 3, 7, 0, 0, 32, 96, 224, 0, 992, 2016, 0, 4096, 16352, 32767, 65535] false 15 (by decide +kernel) (by decide) ?_
                    obtain ⟨d8, r7, c15, _, s23⟩ := s22.openL (P := Try.prog) (k := .i64) 4 rfl ty31 rfl ty37 rfl kx5
                    obtain ⟨w3, rfl, s24⟩ := s23.ops 1 rfl
                    simp only [SQ, ty108, ty31, s22.b 3 rfl, ty37, s24.hii (P := Try.prog) (k := .i64) 0 rfl ty31 rfl ty37 rfl kx5, s24.hrow 0 rfl, ty3, hb1, hb2, hb3, hb5, n1, n2, n3, n4, n5, n6]
                    refine N_sl ([x_1] : List Int) R3i s24 rfl rfl (by first | rfl | simp only [SQ]) (by first | rfl | simp only [List.length_map, List.length_replicate]) (zip_flat rfl) ?_
                    intro v5 H17 s25
                    simp only [SQ, ty37, ty3, hb1, hb2, hb3, hb5, n1, n2, n3, n4, n5, n6]
                    refine N_app (xs := x5) (ys := ([x_1] : List Int)) 2 s25 rfl rfl ty37 rfl ty37 rfl ty3 rfl rfl rfl (by decide) rfl (s25.srowsi 0 rfl) kl5 (fun _ _ e0 _ _ _ _ e => by cases e0; simp only [SQ, s25.nev 2 0 rfl rfl (by decide) e, s25.neh 2 1 rfl rfl (by decide) e, s25.nev 2 3 rfl rfl (by decide) e, s25.nev 2 4 rfl rfl (by decide) e, s25.nes 2 5 rfl rfl (by decide) e, s25.nes 2 6 rfl rfl (by decide) e, hb1, hb2, hb3, hb5, n1, n2, n3, n4, n5, n6]) ?_
                    intro v6 H18 s26
                    simp only [SQ, ty31, ty37, s26.hii (P := Try.prog) (k := .i64) 2 rfl ty31 rfl ty37 rfl kx5, s26.cf 0 rfl, hb1, hb2, hb3, hb5, n1, n2, n3, n4, n5, n6]
                    refine N_sth (row' := [v6]) 2 s26 rfl ty37 (s26.cf 0 rfl).1 (by first | rfl | simp only [SQ, s26.cf 0 rfl, hb1, hb2, hb3, hb5, n1, n2, n3, n4, n5, n6]) (by first | decide | simp only [SQ, s26.cf 0 rfl, hb1, hb2, hb3, hb5, n1, n2, n3, n4, n5, n6]) (by simp only [SQ, s26.cf 0 rfl, hb1, hb2, hb3, hb5, n1, n2, n3, n4, n5, n6]) (by first | rfl | simp only [SQ, s26.cf 0 rfl, hb1, hb2, hb3, hb5, n1, n2, n3, n4, n5, n6]) fun H19 s27 => ?_
                    have s28 := s27.fold [2, 0, 1, 3, 4, 5, 6] 2 (by decide) (fun p h => fold_l kl6 (star_mono h (fun _ h => h) (fold_s)))
                    simp only [SQ, hb1, hb2, hb3, hb5, n1, n2, n3, n4, n5, n6]
                    refine hold_intro ?_
                    replace kj2 := Option.some.inj kj2
                    obtain ⟨q3, q4⟩ := Prod.mk.inj kj2
                    clear kj2
                    subst q3
                    subst q4
                    exact ⟨⟨rfl, rfl, by first | rfl | simp only [SQ, hb1, hb2, hb3, hb5, n1, n2, n3, n4, n5, n6]⟩, s28.sel [4, 5, 2, 0] (by decide)⟩
                  ·
                    rw [if_neg (by rw [hb5]; decide)] at kj2
                    refine U_condF (by simp only [SQ, hb1, hb2, hb3, hb5, n1, n2, n3, n4, n5, n6]) ?_
                    refine U_skip ?_
                    replace kj2 := Option.some.inj kj2
                    obtain ⟨q5, q6⟩ := Prod.mk.inj kj2
                    clear kj2
                    subst q5
                    subst q6
                    exact ⟨⟨rfl, rfl, by first | rfl | simp only [SQ, hb1, hb2, hb3, hb5, n1, n2, n3, n4, n5, n6]⟩, s16⟩
              ·
                rintro a4 H12 ⟨f4, s12⟩
                refine U_fi f4 ?_
                refine U_reg ?_
                simp only [SQ, hb1, hb2, hb3, n1, n2, n3, n4, n5, n6]
                refine hold_intro ?_
                replace hr2 := Option.some.inj hr2
                subst hr2
                exact ⟨(m2', c11, c12, IntKind.wrap .i64 (x_3 + 1)), m2_lt, hl4, ⟨rfl, rfl, by first | rfl | simp only [SQ, hb1, hb2, hb3, n1, n2, n3, n4, n5, n6]⟩, s12⟩
            ·
              rw [if_neg (by rw [hb3]; decide)] at hr2
              refine U_condF (by simp only [SQ, hb1, hb2, hb3, n1, n2, n3, n4, n5, n6]) ?_
              refine U_exit rfl ?_
              replace hr2 := Option.some.inj hr2
              subst hr2
              exact ⟨_, _, _, hl4, ⟨rfl, rfl, by first | rfl | simp only [SQ, hb1, hb2, hb3, n1, n2, n3, n4, n5, n6]⟩, s11⟩
          ·
            rintro a6 H20 ⟨c9, c10, x_4, rfl, f9, s29⟩
            replace kj1 := outE_n kj1
            dsimp only at kj1
            replace kj1 := Option.some.inj kj1
            obtain ⟨q7, q8⟩ := Prod.mk.inj kj1
            clear kj1
            subst q7
            subst q8
            exact ⟨(f9.sub rfl), s29⟩
      ·
        rintro a2 H6 ⟨f2, s6⟩
        refine U_fi f2 ?_
        refine U_reg ?_
        simp only [SQ, hb1, n1, n2, n3, n4, n5, n6]
        refine hold_intro ?_
        replace hr1 := Option.some.inj hr1
        subst hr1
        exact ⟨(m1', IntKind.wrap .i64 (x_1 + 1), c5, c6), m1_lt, hl2, ⟨rfl, rfl, by first | rfl | simp only [SQ, hb1, n1, n2, n3, n4, n5, n6]⟩, s6⟩
    ·
      rw [if_neg (by rw [hb1]; decide)] at hr1
      refine U_condF (by simp only [SQ, hb1, n1, n2, n3, n4, n5, n6]) ?_
      refine U_exit rfl ?_
      replace hr1 := Option.some.inj hr1
      subst hr1
      exact ⟨_, _, _, hl2, ⟨rfl, rfl, by first | rfl | simp only [SQ, hb1, n1, n2, n3, n4, n5, n6]⟩, s5⟩
  ·
    rintro a7 H21 ⟨x_2, c3, c4, rfl, f10, s30⟩
    replace h := outE_n h
    dsimp only at h
    refine U_fi f10 ?_
    refine U_seq ?_
    refine U_reg ?_
    simp only [SQ, n1, n2, n3, n4, n5, n6]
    refine hold_intro ?_
    have s31 := s30.fold [1, 2, 3, 0] 3 (by decide) (fold_x (R := R108t0ssi1ssie) (x := (⟨c3, c4⟩ : graph_Graph)) rfl (R108t0ssi1ssie_f (x := (⟨c3, c4⟩ : graph_Graph))))
    refine U_ret ?_
    replace h := Option.some.inj h
    subst h
    refine ⟨.pb d2 0 0, by simp only [ires, iress, Try.results15, SQ, List.toList_toArray, n1, n2, n3, n4, n5, n6], ?_⟩
    exact s31.fzB 0 rfl

theorem w_graph_Graph_Len {fuel : Nat} {g_1 : graph_Graph} {r0_ : Int} (h : p_graph_Graph_Len fuel g_1 = some r0_) : Pure1 Try.prog 17 [.pim [egraph_Graph g_1] 0 0] (.int .i64 r0_) := by
  refine Pure1_S (all_cl (cl_pim1 cl_egraph_Graph _) all_cl0) fun F H s0 => ?_
  refine U_call 0 Try.func17 rfl (by kernel_rfl) (by simp [Try.ntmps17]) ?_
  rw [Try.ntmps17]
  refine U_fr 10 [(0, .pim [egraph_Graph g_1] 0 0)] rfl rfl rfl ?_
  unfold p_graph_Graph_Len at h
  refine U_seq ?_
  refine U_reg ?_
  simp only [SQ, n1, n2, n3, n4, n5, n6]
  refine hold_intro ?_
  refine U_seq ?_
  refine U_seq ?_
  refine U_reg ?_
  simp only [SQ, ty29, nil_cmp (P := Try.prog) ty29 rfl, n1, n2, n3, n4, n5, n6]
  refine hold_intro ?_
  refine U_condF rfl ?_
  refine U_skip ?_
  refine U_seq ?_
  refine U_reg ?_
  simp only [SQ, ty108, ty31, sgraph_Graph, len_sim ty31 rfl, n1, n2, n3, n4, n5, n6]
  refine hold_intro ?_
  refine U_ret ?_
  replace h := Option.some.inj h
  subst h
  refine ⟨.int .i64 (g_1.succ.length : Int), by simp only [ires, iress, Try.results17, SQ, List.toList_toArray, n1, n2, n3, n4, n5, n6], ?_⟩
  exact .cl (closed_int _ _)

theorem w_slices_Clone_int_int_own {fuel : Nat} {s r0_ : List Int} (h : p_slices_Clone_int_int fuel s = some r0_) : CallS Try.prog 131 [.sim (s.map eInt) false] [] (fun r L => ∃ w0 : IV, (r = w0 ∧ L = [sl R3i w0 r0_])) := by
  intro F H s0
  refine U_call 0 Try.func131 rfl (by kernel_rfl) (by simp [Try.ntmps131]) ?_
  rw [Try.ntmps131]
  refine U_fr 8 [(0, .sim (s.map eInt) false)] rfl rfl rfl ?_
  unfold p_slices_Clone_int_int at h
  rcases (show s = [] ∨ s ≠ [] by cases s <;> simp) with hs | hs
  · subst hs
    refine U_nil 0 (full := false) rfl ?_ ?_
    · refine U_seq ?_
      refine U_reg ?_
      simp only [SQ, n1, n2, n3, n4, n5, n6]
      refine hold_intro ?_
      refine U_seq ?_
      refine U_seq ?_
      refine U_reg ?_
      simp only [SQ, ty37, nil_nil ty37 rfl, n1, n2, n3, n4, n5, n6]
      refine hold_intro ?_
      refine U_condT rfl ?_
      refine U_seq ?_
      refine U_reg ?_
      simp only [SQ, ty37, n1, n2, n3, n4, n5, n6]
      refine hold_intro ?_
      refine U_ret ?_
      obtain rfl : [] = r0_ := by simpa [PL.app] using h
      exact ⟨_, by simp only [ires, iress, Try.results131, SQ, List.toList_toArray, n1, n2, n3, n4, n5, n6], _, ⟨_, rfl, rfl⟩, s0.nil' R3i⟩
    · refine U_seq ?_
      refine U_reg ?_
      simp only [SQ, n1, n2, n3, n4, n5, n6]
      refine hold_intro ?_
      refine U_seq ?_
      refine U_seq ?_
      refine U_reg ?_
      simp only [SQ, ty37, nil_sime ty37 rfl, n1, n2, n3, n4, n5, n6]
      refine hold_intro ?_
      refine U_condF rfl ?_
      refine U_skip ?_
      refine U_seq ?_
      refine U_sub 0 (v := .sime) rfl sub_sime ?_
      refine U_reg ?_
      simp only [SQ, ty37, ty3, n1, n2, n3, n4, n5, n6]
      refine N_sl ([] : List Int) R3i s0 rfl rfl (by first | rfl | simp only [SQ]) rfl (zip_flat rfl) ?_
      intro v1 H1 s1
      simp only [SQ, ty37, ty3, n1, n2, n3, n4, n5, n6]
      refine N_app (f := eInt) (xs := []) (ys := []) 0 s1 rfl rfl ty37 rfl ty37 rfl ty3 rfl rfl rfl (by decide) rfl (by simp [srows]) h (fun _ _ e => by cases e) ?_
      intro v2 H2 s2
      simp only [SQ, ty37, ty3, n1, n2, n3, n4, n5, n6]
      refine hold_intro ?_
      refine U_ret ?_
      exact ⟨_, by simp only [ires, iress, Try.results131, SQ, List.toList_toArray, n1, n2, n3, n4, n5, n6], _, ⟨_, rfl, rfl⟩, s2⟩
  · have hq : ∀ x, ibin Try.prog .eql 37 (.sim (s.map eInt) false) .nils x = some (.bool false) := fun x => nil_cons ty37 rfl hs
    refine U_seq ?_
    refine U_reg ?_
    simp only [SQ, n1, n2, n3, n4, n5, n6]
    refine hold_intro ?_
    refine U_seq ?_
    refine U_seq ?_
    refine U_reg ?_
    simp only [SQ, ty37, hq, n1, n2, n3, n4, n5, n6]
    refine hold_intro ?_
    refine U_condF rfl ?_
    refine U_skip ?_
    refine U_seq ?_
    refine U_reg ?_
    simp only [SQ, ty37, ty3, n1, n2, n3, n4, n5, n6]
    refine N_sl ([] : List Int) R3i s0 rfl rfl (by first | rfl | simp only [SQ]) rfl (zip_flat rfl) ?_
    intro v1 H1 s1
    simp only [SQ, ty37, ty3, n1, n2, n3, n4, n5, n6]
    refine N_app (f := eInt) (xs := []) (ys := s) 0 s1 rfl rfl ty37 rfl ty37 rfl ty3 rfl rfl rfl (by decide) rfl (srows_sim (f := eInt) (fun _ => by simp only [SQ])) h (fun _ _ e => by cases e) ?_
    intro v2 H2 s2
    simp only [SQ, ty37, ty3, n1, n2, n3, n4, n5, n6]
    refine hold_intro ?_
    refine U_ret ?_
    exact ⟨_, by simp only [ires, iress, Try.results131, SQ, List.toList_toArray, n1, n2, n3, n4, n5, n6], _, ⟨_, rfl, rfl⟩, s2⟩
theorem w_slices_Clone_int_int {fuel : Nat} {s r0_ : List Int} (h : p_slices_Clone_int_int fuel s = some r0_) : Pure1 Try.prog 131 [.sim (s.map eInt) false] (.sim (r0_.map eInt) false) := by
  refine Pure1_S (all_cl (cl_map cl_eInt _) all_cl0) fun F H s0 => ?_
  refine (w_slices_Clone_int_int_own h F H s0).mono fun v H' hv => ?_
  obtain ⟨L, ⟨w, rfl, rfl⟩, s1⟩ := hv
  exact s1.fzS 0 rfl

theorem w_graph_Graph_list {fuel : Nat} {g_1 : graph_Graph} {i_1 : Int} {which_1 : Int} {r0_ : List Int} (h : p_graph_Graph_list fuel g_1 i_1 which_1 = some r0_) : Pure1 Try.prog 79 [.pim [egraph_Graph g_1] 0 0, .int .i64 i_1, .int .i64 which_1] (.sim (r0_.map eInt) false) := by
  refine Pure1_S (all_cl (cl_pim1 cl_egraph_Graph _) (all_cl (closed_int _ _) (all_cl (closed_int _ _) all_cl0))) fun F H s0 => ?_
  refine U_call 0 Try.func79 rfl (by kernel_rfl) (by simp [Try.ntmps79]) ?_
  rw [Try.ntmps79]
  refine U_fr 30 [(0, .pim [egraph_Graph g_1] 0 0), (1, .int .i64 i_1), (2, .int .i64 which_1)] rfl rfl rfl ?_
  unfold p_graph_Graph_list at h
  refine U_seq ?_
  refine U_reg ?_
  simp only [SQ, n1, n2, n3, n4, n5, n6]
  refine hold_intro ?_
  refine U_seq ?_
  refine U_seq ?_
  refine U_fr 30 [(0, .pim [egraph_Graph g_1] 0 0), (1, .int .i64 i_1), (2, .int .i64 which_1)] rfl rfl rfl ?_
  obtain ⟨b1, kb1, h⟩ := bndO h
  refine U_cut (fun a' H' => Fi a' 30 [(0, .pim [egraph_Graph g_1] 0 0), (1, .int .i64 i_1), (2, .int .i64 which_1), (14, .bool b1)] ∧ H = H') ?_ ?_
  · refine U_reg ?_
    rcases Bool.eq_false_or_eq_true (decide (i_1 < 0)) with hb1 | hb1
    ·
      have hx1 := hb1
      rw [if_pos hx1] at kb1
      have hq1 := (Option.some.inj kb1).symm
      simp only [SQ, hb1, hq1, n1, n2, n3, n4, n5, n6]
      refine hold_intro ?_
      exact ⟨⟨rfl, rfl, by first | rfl | simp only [SQ, hb1, hq1, n1, n2, n3, n4, n5, n6]⟩, rfl⟩
    ·
      have hx2 := hb1
      rw [if_neg (by rw [hx2]; decide)] at kb1
      obtain ⟨r1, kr1, kb1⟩ := bndO kb1
      have hq2 := (Option.some.inj kb1).symm
      simp only [SQ, hb1, hq2, n1, n2, n3, n4, n5, n6]
      refine callP (w_graph_Graph_Len kr1) ?_
      simp only [SQ, hb1, hq2, n1, n2, n3, n4, n5, n6]
      refine hold_intro ?_
      exact ⟨⟨rfl, rfl, by first | rfl | simp only [SQ, hb1, hq2, n1, n2, n3, n4, n5, n6]⟩, rfl⟩
  · rintro a1 _ ⟨f1, rfl⟩
    refine U_fi f1 ?_
    rcases Bool.eq_false_or_eq_true (b1) with hb2 | hb2
    ·
      rw [if_pos hb2] at h
      refine U_condT (by simp only [SQ, hb2, n1, n2, n3, n4, n5, n6]) ?_
      refine U_seq ?_
      refine U_reg ?_
      simp only [SQ, hb2, n1, n2, n3, n4, n5, n6]
      refine hold_intro ?_
      refine U_ret ?_
      replace h := Option.some.inj h
      subst h
      refine ⟨.nils, by simp only [ires, iress, Try.results79, SQ, List.toList_toArray, hb2, n1, n2, n3, n4, n5, n6], ?_⟩
      exact .nils
    ·
      rw [if_neg (by rw [hb2]; decide)] at h
      refine U_condF (by simp only [SQ, hb2, n1, n2, n3, n4, n5, n6]) ?_
      refine U_skip ?_
      refine U_seq ?_
      refine U_fr 30 [(0, .pim [egraph_Graph g_1] 0 0), (1, .int .i64 i_1), (2, .int .i64 which_1)] rfl rfl rfl ?_
      obtain ⟨c1, kc1, h⟩ := bndO h
      obtain ⟨x1, kx1, h⟩ := bndO h
      obtain ⟨r2, kr2, h⟩ := bndO h
      refine U_cut (fun a' H' => Fi a' 30 [(6, .sim (r2.map eInt) false)] ∧ H = H') ?_ ?_
      · refine U_drawQ hm [0, 1, 3, 7, 0, 16, 48, 112, 255, 0, 1023, 0, 4095, 8191, 16383, 32767] false 12 (by decide +kernel) (by decide) ?_
        rcases c1 with _ | _
        ·
          try simp only [A2_at_t, A2_at_f] at *
          simp only [SQ, ty108, ty31, sgraph_Graph, ty175, fk175, sA175, index_arr (jn := 0) (m := 0) (ix2_f kc1 rfl) ty175 rfl ty31 (by decide) rfl, ty37, iia_sim (f := eS eInt) ty31 rfl ty37 kx1 rfl, row_sim (f := eS eInt) kx1, hb2, n1, n2, n3, n4, n5, n6]
          refine callP (w_slices_Clone_int_int kr2) ?_
          simp only [SQ, hb2, n1, n2, n3, n4, n5, n6]
          refine hold_intro ?_
          exact ⟨⟨rfl, rfl, by first | rfl | simp only [SQ, hb2, n1, n2, n3, n4, n5, n6]⟩, rfl⟩
        ·
          try simp only [A2_at_t, A2_at_f] at *
          simp only [SQ, ty108, ty31, sgraph_Graph, ty175, fk175, sA175, index_arr (jn := 1) (m := 1) (ix2_t kc1 rfl) ty175 rfl ty31 (by decide) rfl, ty37, iia_sim (f := eS eInt) ty31 rfl ty37 kx1 rfl, row_sim (f := eS eInt) kx1, hb2, n1, n2, n3, n4, n5, n6]
          refine callP (w_slices_Clone_int_int kr2) ?_
          simp only [SQ, hb2, n1, n2, n3, n4, n5, n6]
          refine hold_intro ?_
          exact ⟨⟨rfl, rfl, by first | rfl | simp only [SQ, hb2, n1, n2, n3, n4, n5, n6]⟩, rfl⟩
      · rintro a2 _ ⟨f2, rfl⟩
        refine U_fi f2 ?_
        refine U_ret ?_
        replace h := Option.some.inj h
        subst h
        refine ⟨.sim (r2.map eInt) false, by simp only [ires, iress, Try.results79, SQ, List.toList_toArray, hb2, n1, n2, n3, n4, n5, n6], ?_⟩
        exact .cl (cl_map cl_eInt r2)

theorem w_graph_Graph_Succ {fuel : Nat} {g_1 : graph_Graph} {i_1 : Int} {r0_ : List Int} (h : p_graph_Graph_Succ fuel g_1 i_1 = some r0_) : Pure1 Try.prog 20 [.pim [egraph_Graph g_1] 0 0, .int .i64 i_1] (.sim (r0_.map eInt) false) := by
  refine Pure1_S (all_cl (cl_pim1 cl_egraph_Graph _) (all_cl (closed_int _ _) all_cl0)) fun F H s0 => ?_
  refine U_call 0 Try.func20 rfl (by kernel_rfl) (by simp [Try.ntmps20]) ?_
  rw [Try.ntmps20]
  refine U_fr 8 [(0, .pim [egraph_Graph g_1] 0 0), (1, .int .i64 i_1)] rfl rfl rfl ?_
  unfold p_graph_Graph_Succ at h
  refine U_seq ?_
  refine U_reg ?_
  simp only [SQ, n1, n2, n3, n4, n5, n6]
  refine hold_intro ?_
  refine U_seq ?_
  obtain ⟨r1, kr1, h⟩ := bndO h
  refine U_reg ?_
  simp only [SQ, n1, n2, n3, n4, n5, n6]
  refine callP (w_graph_Graph_list kr1) ?_
  simp only [SQ, n1, n2, n3, n4, n5, n6]
  refine hold_intro ?_
  refine U_ret ?_
  replace h := Option.some.inj h
  subst h
  refine ⟨.sim (r1.map eInt) false, by simp only [ires, iress, Try.results20, SQ, List.toList_toArray, n1, n2, n3, n4, n5, n6], ?_⟩
  exact .cl (cl_map cl_eInt r1)

theorem w_dyehouseref12_Ints {fuel : Nat} {av_1 : List Int} {b_1 : List Int} {r0_ : Bool} (h : p_dyehouseref12_Ints fuel av_1 b_1 = some r0_) : Pure1 Try.prog 19 [.sim (av_1.map eInt) false, .sim (b_1.map eInt) false] (.bool r0_) := by
  refine Pure1_S (all_cl (cl_map cl_eInt av_1) (all_cl (cl_map cl_eInt b_1) all_cl0)) fun F H s0 => ?_
  refine U_call 0 Try.func19 rfl (by kernel_rfl) (by simp [Try.ntmps19]) ?_
  rw [Try.ntmps19]
  refine U_fr 26 [(0, .sim (av_1.map eInt) false), (1, .sim (b_1.map eInt) false)] rfl rfl rfl ?_
  unfold p_dyehouseref12_Ints at h
  refine U_seq ?_
  refine U_reg ?_
  simp only [SQ, n1, n2, n3, n4, n5, n6]
  refine hold_intro ?_
  refine U_seq ?_
  refine U_seq ?_
  refine U_reg ?_
  simp only [SQ, len_sim ty37 rfl, n1, n2, n3, n4, n5, n6]
  refine hold_intro ?_
  rcases Bool.eq_false_or_eq_true (decide ((av_1.length : Int) ≠ (b_1.length : Int))) with hb1 | hb1
  ·
    rw [if_pos hb1] at h
    refine U_condT (by simp only [SQ, hb1, n1, n2, n3, n4, n5, n6]) ?_
    refine U_seq ?_
    refine U_reg ?_
    simp only [SQ, hb1, n1, n2, n3, n4, n5, n6]
    refine hold_intro ?_
    refine U_ret ?_
    replace h := Option.some.inj h
    subst h
    refine ⟨.bool false, by simp only [ires, iress, Try.results19, SQ, List.toList_toArray, hb1, n1, n2, n3, n4, n5, n6], ?_⟩
    exact .cl (closed_bool _)
  ·
    rw [if_neg (by rw [hb1]; decide)] at h
    refine U_condF (by simp only [SQ, hb1, n1, n2, n3, n4, n5, n6]) ?_
    refine U_skip ?_
    refine U_seq ?_
    refine U_seq ?_
    refine U_reg ?_
    simp only [SQ, hb1, n1, n2, n3, n4, n5, n6]
    refine hold_intro ?_
    refine U_fr 26 [(0, .sim (av_1.map eInt) false), (1, .sim (b_1.map eInt) false), (5, .int .i64 0)] rfl rfl rfl ?_
    obtain ⟨u1, he1, h⟩ := bndE h
    obtain ⟨hhi1, hlo1, he1⟩ := toE_facts he1
    refine U_cut (fun a' H' => u1 = .n () ∧ Fi a' 26 [] ∧ HS F [] H') (U_block (U_loop (fun z_ a' H' => match z_ with | i1 => forE ((av_1.length : Int) - i1).toNat i1 (fun i _ => p_dyehouseref12_Ints_b1 fuel av_1 b_1 i) () = some u1 ∧ 0 ≤ i1 ∧ Fi a' 26 [(0, .sim (av_1.map eInt) false), (1, .sim (b_1.map eInt) false), (5, .int .i64 i1)] ∧ HS F [] H' : Int → Fr → Heap → Prop) (fun z_ : Int => ((av_1.length : Int) - z_).toNat) 0 ?_ ?_)) ?_
    · exact ⟨he1, Int.le_refl _, ⟨rfl, rfl, by first | rfl | simp only [SQ, hb1, n1, n2, n3, n4, n5, n6]⟩, s0⟩
    ·
      rintro i1 a1 H1 ⟨hf1, hl1, f1, s1⟩
      refine U_fi f1 ?_
      by_cases hlt1 : i1 < (av_1.length : Int)
      ·
        obtain ⟨u2, hr1, hl2⟩ := forE_step hf1 hlt1
        replace hr1 : p_dyehouseref12_Ints_b1 fuel av_1 b_1 i1 = some u2 := hr1
        unfold p_dyehouseref12_Ints_b1 at hr1
        have hw1 := wrap_next hlt1 hhi1 hlo1 hl1
        have hlt1_t : decide (i1 < (av_1.length : Int)) = true := decide_eq_true hlt1
        refine U_seq (U_seq ?_)
        refine U_reg ?_
        simp only [SQ, len_sim ty37 rfl, hb1, hw1, hlt1_t, n1, n2, n3, n4, n5, n6]
        refine hold_intro ?_
        refine U_condT (by simp only [SQ, hb1, hw1, hlt1_t, n1, n2, n3, n4, n5, n6]) (U_skip ?_)
        refine U_seq ?_
        refine U_block ?_
        refine U_seq ?_
        obtain ⟨x1, kx1, hr1⟩ := bndO hr1
        obtain ⟨x2, kx2, hr1⟩ := bndO hr1
        refine U_drawQ hm [0, 0, 3, 7, 0, 0, 48, 112, 255] false 8 (by decide +kernel) (by decide) ?_
        simp only [SQ, ty37, ty3, iia_sim (f := eInt) ty37 rfl ty3 kx1 rfl, row_sim (f := eInt) kx1, iia_sim (f := eInt) ty37 rfl ty3 kx2 rfl, row_sim (f := eInt) kx2, hb1, hw1, hlt1_t, n1, n2, n3, n4, n5, n6]
        refine hold_intro ?_
        rcases Bool.eq_false_or_eq_true (decide (x1 ≠ x2)) with hb2 | hb2
        ·
          rw [if_pos hb2] at hr1
          refine U_condT (by simp only [SQ, hb1, hw1, hlt1_t, hb2, n1, n2, n3, n4, n5, n6]) ?_
          refine U_seq ?_
          refine U_fr 26 [] rfl rfl rfl ?_
          refine U_reg ?_
          simp only [SQ, hb1, hw1, hlt1_t, hb2, n1, n2, n3, n4, n5, n6]
          refine hold_intro ?_
          refine U_ret ?_
          replace hr1 := Option.some.inj hr1
          subst hr1
          replace hl2 : u1 = .r _ := hl2
          subst hl2
          replace h := outE_r h
          replace h := Option.some.inj h
          subst h
          refine ⟨.bool false, by simp only [ires, iress, Try.results19, SQ, List.toList_toArray, hb1, hw1, hlt1_t, hb2, n1, n2, n3, n4, n5, n6], ?_⟩
          exact .cl (closed_bool _)
        ·
          rw [if_neg (by rw [hb2]; decide)] at hr1
          refine U_condF (by simp only [SQ, hb1, hw1, hlt1_t, hb2, n1, n2, n3, n4, n5, n6]) ?_
          refine U_skip ?_
          refine U_reg ?_
          simp only [SQ, hb1, hw1, hlt1_t, hb2, n1, n2, n3, n4, n5, n6]
          refine hold_intro ?_
          replace hr1 := Option.some.inj hr1
          subst hr1
          refine ⟨i1 + 1, ?_, hl2, Int.le_add_one hl1, ⟨rfl, rfl, by first | rfl | simp only [SQ, hb1, hw1, hlt1_t, hb2, n1, n2, n3, n4, n5, n6]⟩, s1⟩
          show ((av_1.length : Int) - (i1 + 1)).toNat < ((av_1.length : Int) - i1).toNat; omega
      ·
        have hlt1_e := forE_end hf1 hlt1
        have hlt1_t : decide (i1 < (av_1.length : Int)) = false := decide_eq_false hlt1
        refine U_seq (U_seq ?_)
        refine U_reg ?_
        simp only [SQ, len_sim ty37 rfl, hb1, hlt1_t, n1, n2, n3, n4, n5, n6]
        refine hold_intro ?_
        refine U_condF (by simp only [SQ, hb1, hlt1_t, n1, n2, n3, n4, n5, n6]) (U_exit rfl ?_)
        exact ⟨hlt1_e, ⟨rfl, rfl, by first | rfl | simp only [SQ, hb1, hlt1_t, n1, n2, n3, n4, n5, n6]⟩, s1⟩
    ·
      rintro a2 H2 ⟨rfl, f2, s2⟩
      replace h := outE_n h
      refine U_fi f2 ?_
      refine U_seq ?_
      refine U_reg ?_
      simp only [SQ, hb1, n1, n2, n3, n4, n5, n6]
      refine hold_intro ?_
      refine U_ret ?_
      replace h := Option.some.inj h
      subst h
      refine ⟨.bool true, by simp only [ires, iress, Try.results19, SQ, List.toList_toArray, hb1, n1, n2, n3, n4, n5, n6], ?_⟩
      exact .cl (closed_bool _)

theorem w_graph_Graph_Pred {fuel : Nat} {g_1 : graph_Graph} {i_1 : Int} {r0_ : List Int} (h : p_graph_Graph_Pred fuel g_1 i_1 = some r0_) : Pure1 Try.prog 21 [.pim [egraph_Graph g_1] 0 0, .int .i64 i_1] (.sim (r0_.map eInt) false) := by
  refine Pure1_S (all_cl (cl_pim1 cl_egraph_Graph _) (all_cl (closed_int _ _) all_cl0)) fun F H s0 => ?_
  refine U_call 0 Try.func21 rfl (by kernel_rfl) (by simp [Try.ntmps21]) ?_
  rw [Try.ntmps21]
  refine U_fr 8 [(0, .pim [egraph_Graph g_1] 0 0), (1, .int .i64 i_1)] rfl rfl rfl ?_
  unfold p_graph_Graph_Pred at h
  refine U_seq ?_
  refine U_reg ?_
  simp only [SQ, n1, n2, n3, n4, n5, n6]
  refine hold_intro ?_
  refine U_seq ?_
  obtain ⟨r1, kr1, h⟩ := bndO h
  refine U_reg ?_
  simp only [SQ, n1, n2, n3, n4, n5, n6]
  refine callP (w_graph_Graph_list kr1) ?_
  simp only [SQ, n1, n2, n3, n4, n5, n6]
  refine hold_intro ?_
  refine U_ret ?_
  replace h := Option.some.inj h
  subst h
  refine ⟨.sim (r1.map eInt) false, by simp only [ires, iress, Try.results21, SQ, List.toList_toArray, n1, n2, n3, n4, n5, n6], ?_⟩
  exact .cl (cl_map cl_eInt r1)

theorem w_bits_Set_in {fuel : Nat} {s_1 : bits_Set} {i_1 : Int} {r0_ : Bool} (h : p_bits_Set_in fuel s_1 i_1 = some r0_) : Pure1 Try.prog 81 [.pim [ebits_Set s_1] 0 0, .int .i64 i_1] (.bool r0_) := by
  refine Pure1_S (all_cl (cl_pim1 cl_ebits_Set _) (all_cl (closed_int _ _) all_cl0)) fun F H s0 => ?_
  refine U_call 0 Try.func81 rfl (by kernel_rfl) (by simp [Try.ntmps81]) ?_
  rw [Try.ntmps81]
  refine U_fr 19 [(0, .pim [ebits_Set s_1] 0 0), (1, .int .i64 i_1)] rfl rfl rfl ?_
  unfold p_bits_Set_in at h
  refine U_seq ?_
  refine U_reg ?_
  simp only [SQ, n1, n2, n3, n4, n5, n6]
  refine hold_intro ?_
  refine U_seq ?_
  refine U_fr 19 [(0, .pim [ebits_Set s_1] 0 0), (1, .int .i64 i_1), (4, .bool false)] rfl rfl rfl ?_
  refine U_cut (fun a' H' => Fi a' 19 [(4, .bool ((decide (0 ≤ i_1)) && (decide (i_1 < s_1.n))))] ∧ H = H') ?_ ?_
  · refine U_reg ?_
    rcases Bool.eq_false_or_eq_true (decide (0 ≤ i_1)) with hb1 | hb1
    ·
      simp only [SQ, ty44, nil_cmp (P := Try.prog) ty44 rfl, ty117, ty3, sbits_Set, hb1, n1, n2, n3, n4, n5, n6]
      refine hold_intro ?_
      exact ⟨⟨rfl, rfl, by first | rfl | simp only [SQ, hb1, n1, n2, n3, n4, n5, n6]⟩, rfl⟩
    ·
      simp only [SQ, ty44, nil_cmp (P := Try.prog) ty44 rfl, hb1, n1, n2, n3, n4, n5, n6]
      refine hold_intro ?_
      exact ⟨⟨rfl, rfl, by first | rfl | simp only [SQ, hb1, n1, n2, n3, n4, n5, n6]⟩, rfl⟩
  · rintro a1 _ ⟨f1, rfl⟩
    refine U_fi f1 ?_
    refine U_ret ?_
    replace h := Option.some.inj h
    subst h
    refine ⟨.bool ((decide (0 ≤ i_1)) && (decide (i_1 < s_1.n))), by simp only [ires, iress, Try.results81, SQ, List.toList_toArray, n1, n2, n3, n4, n5, n6], ?_⟩
    exact .cl (closed_bool _)

theorem w_bits_Set_Has {fuel : Nat} {s_1 : bits_Set} {i_1 : Int} {r0_ : Bool} (h : p_bits_Set_Has fuel s_1 i_1 = some r0_) : Pure1 Try.prog 26 [.pim [ebits_Set s_1] 0 0, .int .i64 i_1] (.bool r0_) := by
  refine Pure1_S (all_cl (cl_pim1 cl_ebits_Set _) (all_cl (closed_int _ _) all_cl0)) fun F H s0 => ?_
  refine U_call 0 Try.func26 rfl (by kernel_rfl) (by simp [Try.ntmps26]) ?_
  rw [Try.ntmps26]
  refine U_fr 23 [(0, .pim [ebits_Set s_1] 0 0), (1, .int .i64 i_1)] rfl rfl rfl ?_
  unfold p_bits_Set_Has at h
  refine U_seq ?_
  refine U_reg ?_
  simp only [SQ, n1, n2, n3, n4, n5, n6]
  refine hold_intro ?_
  refine U_seq ?_
  refine U_fr 23 [(0, .pim [ebits_Set s_1] 0 0), (1, .int .i64 i_1), (4, .bool false)] rfl rfl rfl ?_
  obtain ⟨r1, kr1, h⟩ := bndO h
  obtain ⟨b1, kb1, h⟩ := bndO h
  refine U_cut (fun a' H' => Fi a' 23 [(4, .bool b1)] ∧ H = H') ?_ ?_
  · refine U_reg ?_
    rcases Bool.eq_false_or_eq_true (r1) with hb1 | hb1
    ·
      have hx1 := hb1
      rw [if_pos hx1] at kb1
      obtain ⟨x1, kx1, kb1⟩ := bndO kb1
      obtain ⟨x2, kx2, kb1⟩ := bndO kb1
      have hq1 := (Option.some.inj kb1).symm
      simp only [SQ, hb1, hq1, n1, n2, n3, n4, n5, n6]
      refine callP (w_bits_Set_in kr1) ?_
      simp only [SQ, ty117, ty115, sbits_Set, ty114, iia_sim (f := eI .u64) ty115 rfl ty114 kx1 rfl, row_sim (f := eI .u64) kx1, bin_shr' kx2, hb1, hq1, n1, n2, n3, n4, n5, n6]
      refine hold_intro ?_
      exact ⟨⟨rfl, rfl, by first | rfl | simp only [SQ, hb1, hq1, n1, n2, n3, n4, n5, n6]⟩, rfl⟩
    ·
      have hx2 := hb1
      rw [if_neg (by rw [hx2]; decide)] at kb1
      have hq2 := (Option.some.inj kb1).symm
      simp only [SQ, hb1, hq2, n1, n2, n3, n4, n5, n6]
      refine callP (w_bits_Set_in kr1) ?_
      simp only [SQ, hb1, hq2, n1, n2, n3, n4, n5, n6]
      refine hold_intro ?_
      exact ⟨⟨rfl, rfl, by first | rfl | simp only [SQ, hb1, hq2, n1, n2, n3, n4, n5, n6]⟩, rfl⟩
  · rintro a1 _ ⟨f1, rfl⟩
    refine U_fi f1 ?_
    refine U_ret ?_
    replace h := Option.some.inj h
    subst h
    refine ⟨.bool b1, by simp only [ires, iress, Try.results26, SQ, List.toList_toArray, n1, n2, n3, n4, n5, n6], ?_⟩
    exact .cl (closed_bool _)

theorem w_bits_New_1 {fuel : Nat} {nv_1 : Int} {r0_ : bits_Set} (h : p_bits_New fuel nv_1 = some r0_) : CallS Try.prog 85 [.int .i64 nv_1] [] (fun r L => ∃ w0_0 : IV, (r = w0_0 ∧ L = [bx R117t1sie w0_0 r0_])) := by
  intro F H s0
  refine U_call 0 Try.func85 rfl (by kernel_rfl) (by simp [Try.ntmps85]) ?_
  rw [Try.ntmps85]
  refine U_fr 13 [(0, .int .i64 nv_1)] rfl rfl rfl ?_
  unfold p_bits_New at h
  refine U_seq ?_
  refine U_reg ?_
  simp only [SQ, n1, n2, n3, n4, n5, n6]
  refine hold_intro ?_
  refine U_seq ?_
  refine U_reg ?_
  simp only [SQ, n1, n2, n3, n4, n5, n6]
  refine hold_intro ?_
  refine U_seq ?_
  obtain ⟨l1, kl1, h⟩ := bndO h
  refine U_reg ?_
  simp only [SQ, ty115, ty114, imk_some (d := 10) (f := eI .u64) ty115 rfl ty114 rfl rfl (by decide) kl1, n1, n2, n3, n4, n5, n6]
  refine N_sl l1 R114i s0 rfl rfl (by first | rfl | simp only [SQ]) (by first | rfl | simp only [List.length_map, List.length_replicate]) (zip_flat rfl) ?_
  intro v1 H1 s1
  simp only [SQ, ty117, s1.cf 0 rfl, fk117, n1, n2, n3, n4, n5, n6]
  refine N_box s1 rfl fun d1 H2 s2 => ?_
  simp only [SQ, n1, n2, n3, n4, n5, n6]
  refine hold_intro ?_
  refine U_ret ?_
  replace h := Option.some.inj h
  subst h
  have s3 := s2.fold [0, 1] 2 (by decide) (fold_x (R := R117t1sie) (x := (⟨(if 0 > nv_1 then 0 else nv_1), l1⟩ : bits_Set)) rfl (R117t1sie_f (x := (⟨(if 0 > nv_1 then 0 else nv_1), l1⟩ : bits_Set))))
  exact ⟨.pb d1 0 0, by simp only [ires, iress, Try.results85, SQ, List.toList_toArray, n1, n2, n3, n4, n5, n6], _, ⟨_, rfl, rfl⟩, s3.sel [0] (by decide)⟩

theorem w_bits_Set_Add {fuel : Nat} {s_1 : bits_Set} {i_1 : Int} {r0_ : Bool} {m0_ : bits_Set} (h : p_bits_Set_Add fuel s_1 i_1 = some (r0_, m0_)) {v0_ : IV} : CallS Try.prog 87 [v0_, .int .i64 i_1] [bx R117t1sie v0_ s_1] (fun r L => (r = (.bool r0_) ∧ L = [bx R117t1sie v0_ m0_])) := by
  intro F H s0
  refine U_call 0 Try.func87 rfl (by kernel_rfl) (by simp [Try.ntmps87]) ?_
  rw [Try.ntmps87]
  refine U_fr 27 [(0, v0_), (1, .int .i64 i_1)] rfl rfl rfl ?_
  unfold p_bits_Set_Add at h
  obtain ⟨d1, c1, rfl, s1⟩ := s0.opx 0 rfl
  obtain ⟨w1, rfl, s2⟩ := R117t1sie_o 1 s1 rfl
  refine U_seq ?_
  refine U_reg ?_
  simp only [SQ, n1, n2, n3, n4, n5, n6]
  refine hold_intro ?_
  refine U_seq ?_
  refine U_seq ?_
  refine U_fr 27 [(0, .pb d1 0 0), (1, .int .i64 i_1)] rfl rfl rfl ?_
  obtain ⟨r1, kr1, h⟩ := bndO h
  obtain ⟨b1, kb1, h⟩ := bndO h
  refine U_cut (fun a' H' => Fi a' 27 [(0, .pb d1 0 0), (1, .int .i64 i_1), (13, .bool b1)] ∧ H = H') ?_ ?_
  · refine U_reg ?_
    rcases Bool.eq_false_or_eq_true (r1) with hb1 | hb1
    ·
      have hx1 : (!r1) = false := by simp only [SQ, hb1, Bool.true_beq, Bool.false_beq, Bool.true_bne, Bool.false_bne, Bool.not_true, Bool.not_false]
      rw [if_neg (by rw [hx1]; decide)] at kb1
      obtain ⟨r2, kr2, kb1⟩ := bndO kb1
      have hq1 := (Option.some.inj kb1).symm
      simp only [SQ, hb1, Bool.true_beq, Bool.false_beq, Bool.true_bne, Bool.false_bne, Bool.not_true, Bool.not_false, hq1, n1, n2, n3, n4, n5, n6]
      refine callLd (w_bits_Set_in kr1) (.cons (Fz_box (s2.pt 1 rfl) (.cons (.cl (closed_int _ _)) (.cons (s2.fzS 0 rfl) (.nil)))) (.cons (.cl (closed_int _ _)) (.nil))) (flat_bool _) ?_
      simp only [SQ, hb1, Bool.true_beq, Bool.false_beq, Bool.true_bne, Bool.false_bne, Bool.not_true, Bool.not_false, hq1, n1, n2, n3, n4, n5, n6]
      refine callLd (w_bits_Set_Has kr2) (.cons (Fz_box (s2.pt 1 rfl) (.cons (.cl (closed_int _ _)) (.cons (s2.fzS 0 rfl) (.nil)))) (.cons (.cl (closed_int _ _)) (.nil))) (flat_bool _) ?_
      simp only [SQ, hb1, Bool.true_beq, Bool.false_beq, Bool.true_bne, Bool.false_bne, Bool.not_true, Bool.not_false, hq1, n1, n2, n3, n4, n5, n6]
      refine hold_intro ?_
      exact ⟨⟨rfl, rfl, by first | rfl | simp only [SQ, hb1, Bool.true_beq, Bool.false_beq, Bool.true_bne, Bool.false_bne, Bool.not_true, Bool.not_false, hq1, n1, n2, n3, n4, n5, n6]⟩, rfl⟩
    ·
      have hx2 : (!r1) = true := by simp only [SQ, hb1, Bool.true_beq, Bool.false_beq, Bool.true_bne, Bool.false_bne, Bool.not_true, Bool.not_false]
      rw [if_pos hx2] at kb1
      have hq2 := (Option.some.inj kb1).symm
      simp only [SQ, hb1, Bool.true_beq, Bool.false_beq, Bool.true_bne, Bool.false_bne, Bool.not_true, Bool.not_false, hq2, n1, n2, n3, n4, n5, n6]
      refine callLd (w_bits_Set_in kr1) (.cons (Fz_box (s2.pt 1 rfl) (.cons (.cl (closed_int _ _)) (.cons (s2.fzS 0 rfl) (.nil)))) (.cons (.cl (closed_int _ _)) (.nil))) (flat_bool _) ?_
      simp only [SQ, hb1, Bool.true_beq, Bool.false_beq, Bool.true_bne, Bool.false_bne, Bool.not_true, Bool.not_false, hq2, n1, n2, n3, n4, n5, n6]
      refine hold_intro ?_
      exact ⟨⟨rfl, rfl, by first | rfl | simp only [SQ, hb1, Bool.true_beq, Bool.false_beq, Bool.true_bne, Bool.false_bne, Bool.not_true, Bool.not_false, hq2, n1, n2, n3, n4, n5, n6]⟩, rfl⟩
  · rintro a1 _ ⟨f1, rfl⟩
    refine U_fi f1 ?_
    rcases Bool.eq_false_or_eq_true (b1) with hb2 | hb2
    ·
      rw [if_pos hb2] at h
      refine U_condT (by simp only [SQ, hb2, n1, n2, n3, n4, n5, n6]) ?_
      refine U_seq ?_
      refine U_reg ?_
      simp only [SQ, hb2, n1, n2, n3, n4, n5, n6]
      refine hold_intro ?_
      refine U_ret ?_
      replace h := Option.some.inj h
      obtain ⟨q1, q2⟩ := Prod.mk.inj h
      clear h
      subst q1
      subst q2
      have s4 := s2.fold [1, 0] 2 (by decide) (fold_x (R := R117t1sie) (x := s_1) rfl (R117t1sie_f (x := s_1)))
      exact ⟨.bool false, by simp only [ires, iress, Try.results87, SQ, List.toList_toArray, hb2, n1, n2, n3, n4, n5, n6], _, ⟨rfl, rfl⟩, s4.sel [0] (by decide)⟩
    ·
      rw [if_neg (by rw [hb2]; decide)] at h
      refine U_condF (by simp only [SQ, hb2, n1, n2, n3, n4, n5, n6]) ?_
      refine U_skip ?_
      refine U_seq ?_
      obtain ⟨x1, kx1, h⟩ := bndO h
      obtain ⟨x2, kx2, h⟩ := bndO h
      obtain ⟨l1, kl1, h⟩ := bndO h
      refine U_drawQ hm [0, 1, 3, 7, 0, 16, 63, 127, 0, 256, 768, 2047, 4095, 8191] false 11 (by decide +kernel) (by decide) ?_
      obtain ⟨w2_i, w2_r, w2_a, w2_1⟩ := s2.at (P := Try.prog) (k := .i64) 0 rfl ty115 rfl ty114 rfl kx1
      simp only [SQ, ty117, ty115, s2.b 1 rfl, ty114, w2_1, s2.row 0 rfl w2_a kx1, bin_shl' kx2, hb2, n1, n2, n3, n4, n5, n6]
      refine N_st (y := bor .u64 x1 x2) 0 s2 rfl w2_a kx1 ty114 rfl (by first | rfl | simp only [SQ, hb2, n1, n2, n3, n4, n5, n6]) (by first | decide | simp only [SQ, hb2, n1, n2, n3, n4, n5, n6] <;> decide) (by simp only [SQ, hb2, n1, n2, n3, n4, n5, n6]) (by first | rfl | simp only [SQ, hb2, n1, n2, n3, n4, n5, n6] <;> rfl) kl1 fun H2 s5 => ?_
      simp only [SQ, hb2, n1, n2, n3, n4, n5, n6]
      refine hold_intro ?_
      refine U_seq ?_
      refine U_fr 27 [] rfl rfl rfl ?_
      refine U_reg ?_
      simp only [SQ, hb2, n1, n2, n3, n4, n5, n6]
      refine hold_intro ?_
      refine U_ret ?_
      replace h := Option.some.inj h
      obtain ⟨q3, q4⟩ := Prod.mk.inj h
      clear h
      subst q3
      subst q4
      have s6 := s5.fold [1, 0] 2 (by decide) (fold_x (R := R117t1sie) (x := (⟨s_1.n, l1⟩ : bits_Set)) rfl (R117t1sie_f (x := (⟨s_1.n, l1⟩ : bits_Set))))
      exact ⟨.bool true, by simp only [ires, iress, Try.results87, SQ, List.toList_toArray, hb2, n1, n2, n3, n4, n5, n6], _, ⟨rfl, rfl⟩, s6.sel [0] (by decide)⟩

theorem w_graph_Graph_post_1 {fuel : Nat} {i_1 : Int} {p_1 : bits_Set} {p_2 : List (A2 Int)} {m1_ : bits_Set} {m2_ : List (A2 Int)} (h : p_graph_Graph_post_1 fuel i_1 p_1 p_2 = some (m1_, m2_)) {v0_ : IV} {v1_ : IV} : CallS Try.prog 132 [.int .i64 i_1, v0_, v1_] [bx R44bt1sie v0_ p_1, bx R34si v1_ p_2] (fun r L => (r = (.tup []) ∧ L = [bx R44bt1sie v0_ m1_, bx R34si v1_ m2_])) := by
  intro F H s0
  refine U_call 0 Try.func132 rfl (by kernel_rfl) (by simp [Try.ntmps132]) ?_
  rw [Try.ntmps132]
  refine U_fr 12 [(0, .int .i64 i_1), (1, v0_), (2, v1_)] rfl rfl rfl ?_
  unfold p_graph_Graph_post_1 at h
  obtain ⟨d1, c1, rfl, s1⟩ := s0.opx 0 rfl
  obtain ⟨w1, rfl, s2⟩ := s1.opb 1 rfl
  obtain ⟨d2, c2, rfl, s3⟩ := s2.opx 2 rfl
  obtain ⟨w2, rfl, s4⟩ := s3.ops 1 rfl
  refine U_seq ?_
  obtain ⟨⟨r1, m1⟩, kr1, h⟩ := bndO h
  dsimp only at h
  refine U_reg ?_
  simp only [SQ, ty44, s4.b 2 rfl, n1, n2, n3, n4, n5, n6]
  refine callS (w_bits_Set_Add kr1) (s4.sel [3, 0, 1, 2] (by decide)) rfl ?_
  rintro _ H1 _ ⟨rfl, rfl⟩ s5
  simp only [SQ, n1, n2, n3, n4, n5, n6]
  refine hold_intro ?_
  rcases Bool.eq_false_or_eq_true (r1) with hb1 | hb1
  ·
    rw [if_pos hb1] at h
    refine U_condT (by simp only [SQ, hb1, n1, n2, n3, n4, n5, n6]) ?_
    obtain ⟨l1, kl1, h⟩ := bndO h
    refine U_reg ?_
    simp only [SQ, ty34, s5.b 1 rfl, ty41, ty3, fk41, hb1, n1, n2, n3, n4, n5, n6]
    refine N_sl ([(⟨i_1, 0⟩ : A2 Int)] : List (A2 Int)) R41i s5 rfl rfl (by first | rfl | simp only [SQ]) (by first | rfl | simp only [List.length_map, List.length_replicate]) (zip_flat rfl) ?_
    intro v1 H2 s6
    simp only [SQ, ty34, ty41, hb1, n1, n2, n3, n4, n5, n6]
    refine N_app (xs := p_2) (ys := ([(⟨i_1, 0⟩ : A2 Int)] : List (A2 Int))) 3 s6 rfl rfl ty34 rfl ty34 rfl ty41 rfl rfl rfl (by decide) rfl (s6.srowsi 0 rfl) kl1 (fun _ _ e => by cases e) ?_
    intro v2 H3 s7
    simp only [SQ, ty34, s7.cf 0 rfl, s7.b 3 rfl, hb1, n1, n2, n3, n4, n5, n6]
    refine N_put 3 s7 rfl fun H4 s8 => ?_
    simp only [SQ, hb1, n1, n2, n3, n4, n5, n6]
    refine hold_intro ?_
    replace h := Option.some.inj h
    obtain ⟨q1, q2⟩ := Prod.mk.inj h
    clear h
    subst q1
    subst q2
    have s9 := s8.fold [4, 2, 0, 1, 3] 2 (by decide) (fold_x (R := R44bt1sie) (x := m1) rfl (fold_b))
    have s10 := s9.fold [3, 1, 0, 2] 2 (by decide) (fold_x (R := R34si) (x := l1) rfl (fold_s))
    exact ⟨.tup [], by simp only [ires, iress, Try.results132, SQ, List.toList_toArray, hb1, n1, n2, n3, n4, n5, n6], _, ⟨rfl, rfl⟩, s10.sel [1, 0] (by decide)⟩
  ·
    rw [if_neg (by rw [hb1]; decide)] at h
    refine U_condF (by simp only [SQ, hb1, n1, n2, n3, n4, n5, n6]) ?_
    refine U_skip ?_
    replace h := Option.some.inj h
    obtain ⟨q3, q4⟩ := Prod.mk.inj h
    clear h
    subst q3
    subst q4
    have s11 := s5.fold [3, 0, 1, 2] 2 (by decide) (fold_x (R := R44bt1sie) (x := m1) rfl (fold_b))
    have s12 := s11.fold [1, 2, 0] 2 (by decide) (fold_x (R := R34si) (x := p_2) rfl (fold_s))
    exact ⟨.tup [], by simp only [ires, iress, Try.results132, SQ, List.toList_toArray, hb1, n1, n2, n3, n4, n5, n6], _, ⟨rfl, rfl⟩, s12.sel [1, 0] (by decide)⟩

theorem w_graph_Graph_post_2 {fuel : Nat} {g_1 : graph_Graph} {r0_ : List Int} (h : p_graph_Graph_post fuel g_1 = some r0_) : CallS Try.prog 82 [.pim [egraph_Graph g_1] 0 0] [] (fun r L => ∃ w0_0 : IV, (r = w0_0 ∧ L = [sl R3i w0_0 r0_])) := by
  intro F H s0
  refine U_call 0 Try.func82 rfl (by kernel_rfl) (by simp [Try.ntmps82]) ?_
  rw [Try.ntmps82]
  refine U_fr 71 [(0, .pim [egraph_Graph g_1] 0 0)] rfl rfl rfl ?_
  unfold p_graph_Graph_post at h
  refine U_seq ?_
  refine U_reg ?_
  simp only [SQ, n1, n2, n3, n4, n5, n6]
  refine hold_intro ?_
  refine U_seq ?_
  obtain ⟨r1, kr1, h⟩ := bndO h
  obtain ⟨r2, kr2, h⟩ := bndO h
  refine U_reg ?_
  simp only [SQ, n1, n2, n3, n4, n5, n6]
  refine callP (w_graph_Graph_Len kr1) ?_
  simp only [SQ, n1, n2, n3, n4, n5, n6]
  refine callS (w_bits_New_1 kr2) (s0.sel [] (by decide)) rfl ?_
  rintro w1 H1 _ ⟨_, rfl, rfl⟩ s1
  simp only [SQ, ty44, n1, n2, n3, n4, n5, n6]
  refine N_box s1 rfl fun d1 H2 s2 => ?_
  simp only [SQ, ty44, s2.bf 1 rfl, s2.b 0 rfl, n1, n2, n3, n4, n5, n6]
  refine N_put 0 s2 rfl fun H3 s3 => ?_
  simp only [SQ, n1, n2, n3, n4, n5, n6]
  refine hold_intro ?_
  refine U_seq ?_
  refine U_reg ?_
  simp only [SQ, n1, n2, n3, n4, n5, n6]
  refine hold_intro ?_
  refine U_seq ?_
  refine U_reg ?_
  simp only [SQ, ty34, n1, n2, n3, n4, n5, n6]
  refine N_box s3 rfl fun d2 H4 s4 => ?_
  simp only [SQ, n1, n2, n3, n4, n5, n6]
  refine hold_intro ?_
  refine U_seq ?_
  refine U_reg ?_
  simp only [SQ, n1, n2, n3, n4, n5, n6]
  refine hold_intro ?_
  refine U_seq ?_
  obtain ⟨⟨m1, m2⟩, km1, h⟩ := bndO h
  dsimp only at h
  refine U_reg ?_
  have s5 := s4.fold [1, 2, 0] 2 (by decide) (fold_x (R := R44bt1sie) (x := r2) rfl (fold_b))
  have s6 := s5.nil' R41i
  have s7 := s6.fold [2, 0, 1] 2 (by decide) (fold_x (R := R34si) (x := ([] : List (A2 Int))) rfl (fold_s))
  simp only [SQ, n1, n2, n3, n4, n5, n6]
  refine callS (w_graph_Graph_post_1 km1) (s7.sel [1, 0] (by decide)) rfl ?_
  rintro _ H5 _ ⟨rfl, rfl⟩ s8
  simp only [SQ, n1, n2, n3, n4, n5, n6]
  refine hold_intro ?_
  refine U_seq ?_
  refine U_fr 71 [(0, .pim [egraph_Graph g_1] 0 0), (4, .nils), (5, .pb d2 0 0), (6, .fn (.func 132) [] [.pb d1 0 0, .pb d2 0 0])] rfl rfl rfl ?_
  obtain ⟨u1, he1, h⟩ := bndE h
  have s10 := s8.nil' R3i
  refine U_cut (fun a' H' => ∃ out_1 : List Int, ∃ steps_1 : List (A2 Int), ∃ c1 : bits_Set, u1 = .n (out_1, steps_1, c1) ∧ ∃ v1 : IV, ∃ v2 : IV, Fi a' 71 [(4, v1)] ∧ HS F [sl R3i v1 out_1, bx R34si v2 steps_1, bx R44bt1sie (.pb d1 0 0) c1] H') (U_block (U_loop (fun z_ a' H' => match z_ with | (m3, out_1, steps_1, c1) => loopE m3 (fun s => p_graph_Graph_post_b1 fuel g_1 s.1 s.2.1 s.2.2) (out_1, steps_1, c1) = some u1 ∧ ∃ v1 : IV, ∃ v2 : IV, Fi a' 71 [(0, .pim [egraph_Graph g_1] 0 0), (4, v1), (5, v2), (6, .fn (.func 132) [] [.pb d1 0 0, v2])] ∧ HS F [sl R3i v1 out_1, bx R34si v2 steps_1, bx R44bt1sie (.pb d1 0 0) c1] H' : (Nat × (List Int) × (List (A2 Int)) × bits_Set) → Fr → Heap → Prop) (fun z_ : Nat × (List Int) × (List (A2 Int)) × bits_Set => z_.1) (fuel, ([] : List Int), m2, m1) ?_ ?_)) ?_
  · exact ⟨he1, _, _, ⟨rfl, rfl, rfl⟩, s10.sel [0, 2, 1] (by decide)⟩
  ·
    rintro ⟨m3, out_1, steps_1, c1⟩ a1 H6 ⟨hf1, v1, v2, f1, s11⟩
    refine U_fi f1 ?_
    obtain ⟨m3', m3_lt, u2, hr1, hl2⟩ := loopE_step hf1
    replace hr1 : p_graph_Graph_post_b1 fuel g_1 out_1 steps_1 c1 = some u2 := hr1
    unfold p_graph_Graph_post_b1 at hr1
    refine U_seq ?_
    refine U_seq ?_
    refine U_reg ?_
    obtain ⟨d3, c3, rfl, s12⟩ := s11.opx 1 rfl
    obtain ⟨w2, rfl, s13⟩ := s12.ops 1 rfl
    simp only [SQ, ty34, s13.b 0 rfl, s13.len (P := Try.prog) 1 rfl ty34 rfl, n1, n2, n3, n4, n5, n6]
    refine hold_intro ?_
    rcases Bool.eq_false_or_eq_true (decide (0 < (steps_1.length : Int))) with hb1 | hb1
    ·
      rw [if_pos hb1] at hr1
      refine U_condT (by simp only [SQ, hb1, n1, n2, n3, n4, n5, n6]) ?_
      refine U_skip ?_
      refine U_block ?_
      refine U_seq ?_
      refine U_fr 71 [(0, .pim [egraph_Graph g_1] 0 0), (4, v1), (5, .pb d3 0 0), (6, .fn (.func 132) [] [.pb d1 0 0, .pb d3 0 0])] rfl rfl rfl ?_
      obtain ⟨x1, kx1, hr1⟩ := bndO hr1
      refine U_reg ?_
      obtain ⟨w3_i, w3_r, w3_a, w3_1⟩ := s13.at (P := Try.prog) (k := .i64) 1 rfl ty34 rfl ty41 rfl kx1
      simp only [SQ, ty34, s13.b 0 rfl, s13.len (P := Try.prog) 1 rfl ty34 rfl, ty41, w3_1, hb1, n1, n2, n3, n4, n5, n6]
      refine hold_intro ?_
      refine U_seq ?_
      refine U_drawQ hm [0, 1, 3, 7, 0, 16, 48, 112, 15, 511] false 9 (by decide +kernel) (by decide) ?_
      simp only [SQ, ty41, ty3, iia_arr (P := Try.prog) (j := 0) (m := 0) ty41 rfl ty3 (by decide) rfl, s13.row 1 rfl w3_a kx1, sA41, iia_arr (P := Try.prog) (j := 1) (m := 1) ty41 rfl ty3 (by decide) rfl, hb1, n1, n2, n3, n4, n5, n6]
      refine hold_intro ?_
      refine U_seq ?_
      refine U_seq ?_
      refine U_fr 71 [(0, .pim [egraph_Graph g_1] 0 0), (4, v1), (5, .pb d3 0 0), (6, .fn (.func 132) [] [.pb d1 0 0, .pb d3 0 0]), (7, .pb w3_i w3_r 0), (8, .int .i64 x1.a0), (9, .int .i64 x1.a1)] rfl rfl rfl ?_
      obtain ⟨x2, kx2, hr1⟩ := bndO hr1
      refine U_reg ?_
      simp only [SQ, ty108, ty31, sgraph_Graph, ty37, iia_sim (f := eS eInt) ty31 rfl ty37 kx2 rfl, row_sim (f := eS eInt) kx2, len_sim ty37 rfl, hb1, n1, n2, n3, n4, n5, n6]
      refine hold_intro ?_
      rcases Bool.eq_false_or_eq_true (decide (x1.a1 = (x2.length : Int))) with hb2 | hb2
      ·
        rw [if_pos hb2] at hr1
        refine U_condT (by simp only [SQ, hb1, hb2, n1, n2, n3, n4, n5, n6]) ?_
        refine U_seq ?_
        obtain ⟨l1, kl1, hr1⟩ := bndO hr1
        refine U_reg ?_
        obtain ⟨v5, v5_f, s14⟩ := s13.sli (P := Try.prog) 1 rfl ty34 rfl ty41 rfl (bnds0 kl1) kl1
        simp only [SQ, ty34, s13.b 0 rfl, s13.len (P := Try.prog) 1 rfl ty34 rfl, v5_f, s14.cf 0 rfl, s14.b 1 rfl, hb1, hb2, n1, n2, n3, n4, n5, n6]
        refine N_put 1 s14 rfl fun H7 s15 => ?_
        simp only [SQ, hb1, hb2, n1, n2, n3, n4, n5, n6]
        refine hold_intro ?_
        refine U_seq ?_
        refine U_fr 71 [(0, .pim [egraph_Graph g_1] 0 0), (4, v1), (5, .pb d3 0 0), (6, .fn (.func 132) [] [.pb d1 0 0, .pb d3 0 0]), (8, .int .i64 x1.a0)] rfl rfl rfl ?_
        obtain ⟨l2, kl2, hr1⟩ := bndO hr1
        refine U_reg ?_
        simp only [SQ, ty37, ty3, hb1, hb2, n1, n2, n3, n4, n5, n6]
        refine N_sl ([x1.a0] : List Int) R3i s15 rfl rfl (by first | rfl | simp only [SQ]) (by first | rfl | simp only [List.length_map, List.length_replicate]) (zip_flat rfl) ?_
        intro v6 H8 s16
        simp only [SQ, ty37, ty3, hb1, hb2, n1, n2, n3, n4, n5, n6]
        refine N_app (xs := out_1) (ys := ([x1.a0] : List Int)) 3 s16 rfl rfl ty37 rfl ty37 rfl ty3 rfl rfl rfl (by decide) rfl (s16.srowsi 0 rfl) kl2 (fun _ _ e => by cases e) ?_
        intro v7 H9 s17
        simp only [SQ, hb1, hb2, n1, n2, n3, n4, n5, n6]
        refine hold_intro ?_
        refine U_exit rfl ?_
        have s18 := s17.fold [3, 2, 0, 1, 4] 2 (by decide) (fold_x (R := R34si) (x := l1) rfl (fold_s))
        replace hr1 := Option.some.inj hr1
        subst hr1
        exact ⟨(m3', l2, l1, c1), m3_lt, hl2, _, _, ⟨rfl, rfl, by first | rfl | simp only [SQ, hb1, hb2, n1, n2, n3, n4, n5, n6]⟩, s18.sel [1, 0, 3] (by decide)⟩
      ·
        rw [if_neg (by rw [hb2]; decide)] at hr1
        refine U_condF (by simp only [SQ, hb1, hb2, n1, n2, n3, n4, n5, n6]) ?_
        refine U_skip ?_
        refine U_seq ?_
        obtain ⟨l3, kl3, hr1⟩ := bndO hr1
        refine U_drawQ hm [0, 1, 3, 7, 15, 1, 63, 127] false 6 (by decide +kernel) (by decide) ?_
        simp only [SQ, ty41, ty3, iia_arr (P := Try.prog) (j := 1) (m := 1) ty41 rfl ty3 (by decide) rfl, s13.row 1 rfl w3_a kx1, sA41, hb1, hb2, n1, n2, n3, n4, n5, n6]
        refine N_st (y := (⟨x1.a0, IntKind.wrap .i64 (x1.a1 + 1)⟩ : A2 Int)) 1 s13 rfl w3_a kx1 ty3 rfl (by first | rfl | simp only [SQ, sA41, hb1, hb2, n1, n2, n3, n4, n5, n6]) (by first | decide | simp only [SQ, sA41, hb1, hb2, n1, n2, n3, n4, n5, n6] <;> decide) (by simp only [SQ, sA41, hb1, hb2, n1, n2, n3, n4, n5, n6]) (by first | rfl | simp only [SQ, sA41, hb1, hb2, n1, n2, n3, n4, n5, n6] <;> rfl) kl3 fun H10 s19 => ?_
        simp only [SQ, hb1, hb2, n1, n2, n3, n4, n5, n6]
        refine hold_intro ?_
        refine U_fr 71 [(0, .pim [egraph_Graph g_1] 0 0), (4, v1), (5, .pb d3 0 0), (6, .fn (.func 132) [] [.pb d1 0 0, .pb d3 0 0]), (8, .int .i64 x1.a0), (9, .int .i64 x1.a1)] rfl rfl rfl ?_
        obtain ⟨x3, kx3, hr1⟩ := bndO hr1
        obtain ⟨⟨m4, m5⟩, km4, hr1⟩ := bndO hr1
        dsimp only at hr1
        refine U_reg ?_
        have s20 := s19.fold [0, 1, 2, 3] 2 (by decide) (fold_x (R := R34si) (x := l3) rfl (fold_s))
        simp only [SQ, ty108, ty31, sgraph_Graph, ty37, iia_sim (f := eS eInt) ty31 rfl ty37 kx2 rfl, row_sim (f := eS eInt) kx2, ty3, iia_sim (f := eInt) ty37 rfl ty3 kx3 rfl, row_sim (f := eInt) kx3, hb1, hb2, n1, n2, n3, n4, n5, n6]
        refine callS (w_graph_Graph_post_1 km4) (s20.sel [2, 0, 1] (by decide)) rfl ?_
        rintro _ H11 _ ⟨rfl, rfl⟩ s21
        simp only [SQ, hb1, hb2, n1, n2, n3, n4, n5, n6]
        refine hold_intro ?_
        replace hr1 := Option.some.inj hr1
        subst hr1
        exact ⟨(m3', out_1, m5, m4), m3_lt, hl2, _, _, ⟨rfl, rfl, by first | rfl | simp only [SQ, hb1, hb2, n1, n2, n3, n4, n5, n6]⟩, s21.sel [2, 1, 0] (by decide)⟩
    ·
      rw [if_neg (by rw [hb1]; decide)] at hr1
      refine U_condF (by simp only [SQ, hb1, n1, n2, n3, n4, n5, n6]) ?_
      refine U_exit rfl ?_
      have s22 := s13.fold [0, 1, 2, 3] 2 (by decide) (fold_x (R := R34si) (x := steps_1) rfl (fold_s))
      replace hr1 := Option.some.inj hr1
      subst hr1
      exact ⟨_, _, _, hl2, _, _, ⟨rfl, rfl, by first | rfl | simp only [SQ, hb1, n1, n2, n3, n4, n5, n6]⟩, s22.sel [1, 0, 2] (by decide)⟩
  ·
    rintro a2 H12 ⟨out_2, steps_2, c2, rfl, v3, v4, f2, s23⟩
    replace h := outE_n h
    dsimp only at h
    refine U_fi f2 ?_
    refine U_seq ?_
    refine U_reg ?_
    simp only [SQ, n1, n2, n3, n4, n5, n6]
    refine hold_intro ?_
    refine U_ret ?_
    replace h := Option.some.inj h
    subst h
    exact ⟨v3, by simp only [ires, iress, Try.results82, SQ, List.toList_toArray, n1, n2, n3, n4, n5, n6], _, ⟨_, rfl, rfl⟩, s23.sel [0] (by decide)⟩

theorem w_slices_Reverse_int_int {fuel : Nat} {s_1 : List Int} {m0_ : List Int} (h : p_slices_Reverse_int_int fuel s_1 = some m0_) {v0_ : IV} : CallS Try.prog 83 [v0_] [sl R3i v0_ s_1] (fun r L => (r = (.tup []) ∧ L = [sl R3i v0_ m0_])) := by
  intro F H s0
  refine U_call 0 Try.func83 rfl (by kernel_rfl) (by simp [Try.ntmps83]) ?_
  rw [Try.ntmps83]
  refine U_fr 28 [(0, v0_)] rfl rfl rfl ?_
  unfold p_slices_Reverse_int_int at h
  refine U_seq ?_
  refine U_reg ?_
  simp only [SQ, s0.len (P := Try.prog) 0 rfl ty37 rfl, n1, n2, n3, n4, n5, n6]
  refine hold_intro ?_
  refine U_fr 28 [(0, v0_), (2, .int .i64 0), (3, .int .i64 (IntKind.wrap .i64 ((s_1.length : Int) - 1)))] rfl rfl rfl ?_
  obtain ⟨u1, he1, h⟩ := bndE h
  refine U_cut (fun a' H' => ∃ s_2 : List Int, ∃ i_1 : Int, ∃ j_1 : Int, u1 = .n (s_2, i_1, j_1) ∧ Fi a' 28 [] ∧ HS F [sl R3i v0_ s_2] H') (U_block (U_loop (fun z_ a' H' => match z_ with | (m1, s_2, i_1, j_1) => loopE m1 (fun s => p_slices_Reverse_int_int_b1 fuel  s.1 s.2.1 s.2.2) (s_2, i_1, j_1) = some u1 ∧ Fi a' 28 [(0, v0_), (2, .int .i64 i_1), (3, .int .i64 j_1)] ∧ HS F [sl R3i v0_ s_2] H' : (Nat × (List Int) × Int × Int) → Fr → Heap → Prop) (fun z_ : Nat × (List Int) × Int × Int => z_.1) (fuel, s_1, 0, IntKind.wrap .i64 ((s_1.length : Int) - 1)) ?_ ?_)) ?_
  · exact ⟨he1, ⟨rfl, rfl, rfl⟩, s0⟩
  ·
    rintro ⟨m1, s_2, i_1, j_1⟩ a1 H1 ⟨hf1, f1, s1⟩
    refine U_fi f1 ?_
    obtain ⟨m1', m1_lt, u2, hr1, hl2⟩ := loopE_step hf1
    replace hr1 : p_slices_Reverse_int_int_b1 fuel  s_2 i_1 j_1 = some u2 := hr1
    unfold p_slices_Reverse_int_int_b1 at hr1
    refine U_seq ?_
    refine U_seq ?_
    refine U_reg ?_
    simp only [SQ, n1, n2, n3, n4, n5, n6]
    refine hold_intro ?_
    rcases Bool.eq_false_or_eq_true (decide (i_1 < j_1)) with hb1 | hb1
    ·
      rw [if_pos hb1] at hr1
      refine U_condT (by simp only [SQ, hb1, n1, n2, n3, n4, n5, n6]) ?_
      refine U_skip ?_
      refine U_seq ?_
      refine U_block ?_
      obtain ⟨x1, kx1, hr1⟩ := bndO hr1
      obtain ⟨x2, kx2, hr1⟩ := bndO hr1
      obtain ⟨l1, kl1, hr1⟩ := bndO hr1
      obtain ⟨x3, kx3, hr1⟩ := bndO hr1
      obtain ⟨l2, kl2, hr1⟩ := bndO hr1
      refine U_drawQ hm [0, 0, 0, 0, 0, 0, 48, 112, 0, 0, 768, 1792, 4083, 8179, 16383, 32767] false 14 (by decide +kernel) (by decide) ?_
      obtain ⟨w1_i, w1_r, w1_a, w1_1⟩ := s1.at (P := Try.prog) (k := .i64) 0 rfl ty37 rfl ty3 rfl kx1
      obtain ⟨w2_i, w2_r, w2_a, w2_1⟩ := s1.at (P := Try.prog) (k := .i64) 0 rfl ty37 rfl ty3 rfl kx2
      simp only [SQ, ty37, ty3, w1_1, s1.row 0 rfl w1_a kx1, w2_1, s1.row 0 rfl w2_a kx2, hb1, n1, n2, n3, n4, n5, n6]
      refine N_st (y := x1) 0 s1 rfl w2_a kx2 ty3 rfl (by first | rfl | simp only [SQ, hb1, n1, n2, n3, n4, n5, n6]) (by first | decide | simp only [SQ, hb1, n1, n2, n3, n4, n5, n6] <;> decide) (by simp only [SQ, hb1, n1, n2, n3, n4, n5, n6]) (by first | rfl | simp only [SQ, hb1, n1, n2, n3, n4, n5, n6] <;> rfl) kl1 fun H2 s2 => ?_
      obtain ⟨w3_i, w3_r, w3_a, w3_1⟩ := s2.at (P := Try.prog) (k := .i64) 0 rfl ty37 rfl ty3 rfl kx3
      simp only [SQ, ty37, ty3, w3_1, hb1, n1, n2, n3, n4, n5, n6]
      refine N_st (y := x2) 0 s2 rfl w3_a kx3 ty3 rfl (by first | rfl | simp only [SQ, hb1, n1, n2, n3, n4, n5, n6]) (by first | decide | simp only [SQ, hb1, n1, n2, n3, n4, n5, n6] <;> decide) (by simp only [SQ, hb1, n1, n2, n3, n4, n5, n6]) (by first | rfl | simp only [SQ, hb1, n1, n2, n3, n4, n5, n6] <;> rfl) kl2 fun H3 s3 => ?_
      simp only [SQ, hb1, n1, n2, n3, n4, n5, n6]
      refine hold_intro ?_
      refine U_fr 28 [(0, v0_), (2, .int .i64 i_1), (3, .int .i64 j_1)] rfl rfl rfl ?_
      refine U_reg ?_
      simp only [SQ, hb1, n1, n2, n3, n4, n5, n6]
      refine hold_intro ?_
      replace hr1 := Option.some.inj hr1
      subst hr1
      exact ⟨(m1', l2, IntKind.wrap .i64 (i_1 + 1), IntKind.wrap .i64 (j_1 - 1)), m1_lt, hl2, ⟨rfl, rfl, by first | rfl | simp only [SQ, hb1, n1, n2, n3, n4, n5, n6]⟩, s3⟩
    ·
      rw [if_neg (by rw [hb1]; decide)] at hr1
      refine U_condF (by simp only [SQ, hb1, n1, n2, n3, n4, n5, n6]) ?_
      refine U_exit rfl ?_
      replace hr1 := Option.some.inj hr1
      subst hr1
      exact ⟨_, _, _, hl2, ⟨rfl, rfl, by first | rfl | simp only [SQ, hb1, n1, n2, n3, n4, n5, n6]⟩, s1⟩
  ·
    rintro a2 H4 ⟨s_3, i_2, j_2, rfl, f2, s4⟩
    replace h := outE_n h
    dsimp only at h
    replace h := Option.some.inj h
    subst h
    exact ⟨.tup [], by simp only [ires, iress, Try.results83, SQ, List.toList_toArray, n1, n2, n3, n4, n5, n6], _, ⟨rfl, rfl⟩, s4.sel [0] (by decide)⟩

theorem w_graph_Graph_Order {fuel : Nat} {g_1 : graph_Graph} {r0_ : List Int} (h : p_graph_Graph_Order fuel g_1 = some r0_) : Pure1 Try.prog 27 [.pim [egraph_Graph g_1] 0 0] (.sim (r0_.map eInt) false) := by
  refine Pure1_S (all_cl (cl_pim1 cl_egraph_Graph _) all_cl0) fun F H s0 => ?_
  refine U_call 0 Try.func27 rfl (by kernel_rfl) (by simp [Try.ntmps27]) ?_
  rw [Try.ntmps27]
  refine U_fr 12 [(0, .pim [egraph_Graph g_1] 0 0)] rfl rfl rfl ?_
  unfold p_graph_Graph_Order at h
  refine U_seq ?_
  refine U_reg ?_
  simp only [SQ, n1, n2, n3, n4, n5, n6]
  refine hold_intro ?_
  refine U_seq ?_
  refine U_seq ?_
  obtain ⟨r1, kr1, h⟩ := bndO h
  refine U_reg ?_
  simp only [SQ, n1, n2, n3, n4, n5, n6]
  refine callP (w_graph_Graph_Len kr1) ?_
  simp only [SQ, n1, n2, n3, n4, n5, n6]
  refine hold_intro ?_
  rcases Bool.eq_false_or_eq_true (decide (r1 = 0)) with hb1 | hb1
  ·
    rw [if_pos hb1] at h
    refine U_condT (by simp only [SQ, hb1, n1, n2, n3, n4, n5, n6]) ?_
    refine U_seq ?_
    refine U_reg ?_
    simp only [SQ, hb1, n1, n2, n3, n4, n5, n6]
    refine hold_intro ?_
    refine U_ret ?_
    replace h := Option.some.inj h
    subst h
    refine ⟨.nils, by simp only [ires, iress, Try.results27, SQ, List.toList_toArray, hb1, n1, n2, n3, n4, n5, n6], ?_⟩
    exact .nils
  ·
    rw [if_neg (by rw [hb1]; decide)] at h
    refine U_condF (by simp only [SQ, hb1, n1, n2, n3, n4, n5, n6]) ?_
    refine U_skip ?_
    refine U_seq ?_
    obtain ⟨r2, kr2, h⟩ := bndO h
    refine U_reg ?_
    simp only [SQ, hb1, n1, n2, n3, n4, n5, n6]
    refine callS (w_graph_Graph_post_2 kr2) (s0.sel [] (by decide)) rfl ?_
    rintro w1 H1 _ ⟨_, rfl, rfl⟩ s1
    simp only [SQ, hb1, n1, n2, n3, n4, n5, n6]
    refine hold_intro ?_
    refine U_seq ?_
    obtain ⟨m1, km1, h⟩ := bndO h
    refine U_reg ?_
    simp only [SQ, hb1, n1, n2, n3, n4, n5, n6]
    refine callS (w_slices_Reverse_int_int km1) (s1.sel [0] (by decide)) rfl ?_
    rintro _ H2 _ ⟨rfl, rfl⟩ s2
    simp only [SQ, hb1, n1, n2, n3, n4, n5, n6]
    refine hold_intro ?_
    refine U_seq ?_
    refine U_reg ?_
    simp only [SQ, hb1, n1, n2, n3, n4, n5, n6]
    refine hold_intro ?_
    refine U_ret ?_
    replace h := Option.some.inj h
    subst h
    refine ⟨w1, by simp only [ires, iress, Try.results27, SQ, List.toList_toArray, hb1, n1, n2, n3, n4, n5, n6], ?_⟩
    exact s2.fzS 0 rfl

theorem w_bits_Of {fuel : Nat} {nv_1 : Int} {l_1 : List Int} {r0_ : bits_Set} (h : p_bits_Of fuel nv_1 l_1 = some r0_) : Pure1 Try.prog 80 [.int .i64 nv_1, .sim (l_1.map eInt) false] (.pim [ebits_Set r0_] 0 0) := by
  refine Pure1_S (all_cl (closed_int _ _) (all_cl (cl_map cl_eInt l_1) all_cl0)) fun F H s0 => ?_
  refine U_call 0 Try.func80 rfl (by kernel_rfl) (by simp [Try.ntmps80]) ?_
  rw [Try.ntmps80]
  refine U_fr 21 [(0, .int .i64 nv_1), (1, .sim (l_1.map eInt) false)] rfl rfl rfl ?_
  unfold p_bits_Of at h
  refine U_seq ?_
  refine U_reg ?_
  simp only [SQ, n1, n2, n3, n4, n5, n6]
  refine hold_intro ?_
  refine U_seq ?_
  obtain ⟨r1, kr1, h⟩ := bndO h
  refine U_reg ?_
  simp only [SQ, n1, n2, n3, n4, n5, n6]
  refine callS (w_bits_New_1 kr1) (s0.sel [] (by decide)) rfl ?_
  rintro w1 H1 _ ⟨_, rfl, rfl⟩ s1
  simp only [SQ, n1, n2, n3, n4, n5, n6]
  refine hold_intro ?_
  refine U_seq ?_
  refine U_seq ?_
  refine U_reg ?_
  simp only [SQ, len_sim ty37 rfl, n1, n2, n3, n4, n5, n6]
  refine hold_intro ?_
  refine U_fr 21 [(5, w1), (10, .sim (l_1.map eInt) false), (11, .int .i64 (l_1.length : Int)), (12, .int .i64 0)] rfl rfl rfl ?_
  obtain ⟨u1, he1, h⟩ := bndE h
  refine U_cut (fun a' H' => ∃ x_1 : Int, ∃ s_1 : bits_Set, u1 = .n (x_1, s_1) ∧ Fi a' 21 [(5, w1)] ∧ HS F [bx R117t1sie w1 s_1] H') (U_block (U_loop (fun z_ a' H' => match z_ with | (m1, x_1, s_1) => loopE m1 (fun s => p_bits_Of_b1 fuel l_1 s.1 s.2) (x_1, s_1) = some u1 ∧ Fi a' 21 [(5, w1), (10, .sim (l_1.map eInt) false), (11, .int .i64 (l_1.length : Int)), (12, .int .i64 x_1)] ∧ HS F [bx R117t1sie w1 s_1] H' : (Nat × Int × bits_Set) → Fr → Heap → Prop) (fun z_ : Nat × Int × bits_Set => z_.1) (fuel, 0, r1) ?_ ?_)) ?_
  · exact ⟨he1, ⟨rfl, rfl, rfl⟩, s1⟩
  ·
    rintro ⟨m1, x_1, s_1⟩ a1 H2 ⟨hf1, f1, s2⟩
    refine U_fi f1 ?_
    obtain ⟨m1', m1_lt, u2, hr1, hl2⟩ := loopE_step hf1
    replace hr1 : p_bits_Of_b1 fuel l_1 x_1 s_1 = some u2 := hr1
    unfold p_bits_Of_b1 at hr1
    refine U_seq ?_
    refine U_reg ?_
    simp only [SQ, n1, n2, n3, n4, n5, n6]
    refine hold_intro ?_
    refine U_seq ?_
    rcases Bool.eq_false_or_eq_true (decide (x_1 < (l_1.length : Int))) with hb1 | hb1
    ·
      rw [if_pos hb1] at hr1
      refine U_condT (by simp only [SQ, hb1, n1, n2, n3, n4, n5, n6]) ?_
      refine U_skip ?_
      refine U_seq ?_
      refine U_block ?_
      refine U_seq ?_
      obtain ⟨x1, kx1, hr1⟩ := bndO hr1
      refine U_reg ?_
      simp only [SQ, ty37, ty3, iia_sim (f := eInt) ty37 rfl ty3 kx1 rfl, row_sim (f := eInt) kx1, hb1, n1, n2, n3, n4, n5, n6]
      refine hold_intro ?_
      obtain ⟨⟨r2, m2⟩, kr2, hr1⟩ := bndO hr1
      dsimp only at hr1
      refine U_reg ?_
      simp only [SQ, hb1, n1, n2, n3, n4, n5, n6]
      refine callS (w_bits_Set_Add kr2) (s2.sel [0] (by decide)) rfl ?_
      rintro _ H3 _ ⟨rfl, rfl⟩ s3
      simp only [SQ, hb1, n1, n2, n3, n4, n5, n6]
      refine hold_intro ?_
      refine U_fr 21 [(5, w1), (10, .sim (l_1.map eInt) false), (11, .int .i64 (l_1.length : Int)), (12, .int .i64 x_1)] rfl rfl rfl ?_
      refine U_reg ?_
      simp only [SQ, hb1, n1, n2, n3, n4, n5, n6]
      refine hold_intro ?_
      replace hr1 := Option.some.inj hr1
      subst hr1
      exact ⟨(m1', IntKind.wrap .i64 (x_1 + 1), m2), m1_lt, hl2, ⟨rfl, rfl, by first | rfl | simp only [SQ, hb1, n1, n2, n3, n4, n5, n6]⟩, s3⟩
    ·
      rw [if_neg (by rw [hb1]; decide)] at hr1
      refine U_condF (by simp only [SQ, hb1, n1, n2, n3, n4, n5, n6]) ?_
      refine U_exit rfl ?_
      replace hr1 := Option.some.inj hr1
      subst hr1
      exact ⟨_, _, hl2, ⟨rfl, rfl, by first | rfl | simp only [SQ, hb1, n1, n2, n3, n4, n5, n6]⟩, s2⟩
  ·
    rintro a2 H4 ⟨x_2, s_2, rfl, f2, s4⟩
    replace h := outE_n h
    dsimp only at h
    refine U_fi f2 ?_
    refine U_seq ?_
    refine U_reg ?_
    simp only [SQ, n1, n2, n3, n4, n5, n6]
    refine hold_intro ?_
    refine U_ret ?_
    replace h := Option.some.inj h
    subst h
    refine ⟨w1, by simp only [ires, iress, Try.results80, SQ, List.toList_toArray, n1, n2, n3, n4, n5, n6], ?_⟩
    exact s4.fzB 0 rfl

theorem w_graph_Graph_Reached {fuel : Nat} {g_1 : graph_Graph} {r0_ : bits_Set} (h : p_graph_Graph_Reached fuel g_1 = some r0_) : Pure1 Try.prog 25 [.pim [egraph_Graph g_1] 0 0] (.pim [ebits_Set r0_] 0 0) := by
  refine Pure1_S (all_cl (cl_pim1 cl_egraph_Graph _) all_cl0) fun F H s0 => ?_
  refine U_call 0 Try.func25 rfl (by kernel_rfl) (by simp [Try.ntmps25]) ?_
  rw [Try.ntmps25]
  refine U_fr 8 [(0, .pim [egraph_Graph g_1] 0 0)] rfl rfl rfl ?_
  unfold p_graph_Graph_Reached at h
  refine U_seq ?_
  refine U_reg ?_
  simp only [SQ, n1, n2, n3, n4, n5, n6]
  refine hold_intro ?_
  refine U_seq ?_
  obtain ⟨r1, kr1, h⟩ := bndO h
  obtain ⟨r2, kr2, h⟩ := bndO h
  obtain ⟨r3, kr3, h⟩ := bndO h
  refine U_reg ?_
  simp only [SQ, n1, n2, n3, n4, n5, n6]
  refine callP (w_graph_Graph_Len kr1) ?_
  simp only [SQ, n1, n2, n3, n4, n5, n6]
  refine callP (w_graph_Graph_Order kr2) ?_
  simp only [SQ, n1, n2, n3, n4, n5, n6]
  refine callP (w_bits_Of kr3) ?_
  simp only [SQ, n1, n2, n3, n4, n5, n6]
  refine hold_intro ?_
  refine U_ret ?_
  replace h := Option.some.inj h
  subst h
  refine ⟨.pim [ebits_Set r3] 0 0, by simp only [ires, iress, Try.results25, SQ, List.toList_toArray, n1, n2, n3, n4, n5, n6], ?_⟩
  exact .cl (cl_pim1 cl_ebits_Set _)

theorem w_math_bits_OnesCount64 {fuel : Nat} {x_1 : Int} {r0_ : Int} (h : p_math_bits_OnesCount64 fuel x_1 = some r0_) : Pure1 Try.prog 123 [.int .u64 x_1] (.int .i64 r0_) := by
  refine Pure1_S (all_cl (closed_int _ _) all_cl0) fun F H s0 => ?_
  refine U_call 0 Try.func123 rfl (by kernel_rfl) (by simp [Try.ntmps123]) ?_
  rw [Try.ntmps123]
  refine U_fr 35 [(0, .int .u64 x_1)] rfl rfl rfl ?_
  unfold p_math_bits_OnesCount64 at h
  refine U_seq ?_
  refine U_reg ?_
  simp only [SQ, n1, n2, n3, n4, n5, n6]
  refine hold_intro ?_
  refine U_seq ?_
  obtain ⟨x1, kx1, h⟩ := bndO h
  refine U_reg ?_
  simp only [SQ, bin_shr' kx1, n1, n2, n3, n4, n5, n6]
  refine hold_intro ?_
  refine U_seq ?_
  obtain ⟨x2, kx2, h⟩ := bndO h
  refine U_reg ?_
  simp only [SQ, bin_shr' kx2, n1, n2, n3, n4, n5, n6]
  refine hold_intro ?_
  refine U_seq ?_
  refine U_fr 35 [(0, .int .u64 (IntKind.wrap .u64 ((band .u64 x2 3689348814741910323) + (band .u64 (IntKind.wrap .u64 ((band .u64 x1 6148914691236517205) + (band .u64 x_1 6148914691236517205))) 3689348814741910323))))] rfl rfl rfl ?_
  obtain ⟨x3, kx3, h⟩ := bndO h
  refine U_reg ?_
  simp only [SQ, bin_shr' kx3, n1, n2, n3, n4, n5, n6]
  refine hold_intro ?_
  refine U_seq ?_
  obtain ⟨x4, kx4, h⟩ := bndO h
  refine U_reg ?_
  simp only [SQ, bin_shr' kx4, n1, n2, n3, n4, n5, n6]
  refine hold_intro ?_
  refine U_seq ?_
  obtain ⟨x5, kx5, h⟩ := bndO h
  refine U_reg ?_
  simp only [SQ, bin_shr' kx5, n1, n2, n3, n4, n5, n6]
  refine hold_intro ?_
  refine U_seq ?_
  refine U_fr 35 [(0, .int .u64 (IntKind.wrap .u64 ((IntKind.wrap .u64 ((band .u64 (IntKind.wrap .u64 (x3 + (IntKind.wrap .u64 ((band .u64 x2 3689348814741910323) + (band .u64 (IntKind.wrap .u64 ((band .u64 x1 6148914691236517205) + (band .u64 x_1 6148914691236517205))) 3689348814741910323))))) 1085102592571150095) + x4)) + x5)))] rfl rfl rfl ?_
  obtain ⟨x6, kx6, h⟩ := bndO h
  refine U_reg ?_
  simp only [SQ, bin_shr' kx6, n1, n2, n3, n4, n5, n6]
  refine hold_intro ?_
  refine U_seq ?_
  refine U_reg ?_
  simp only [SQ, conv_int ty114 ty3 rfl, n1, n2, n3, n4, n5, n6]
  refine hold_intro ?_
  refine U_ret ?_
  replace h := Option.some.inj h
  subst h
  refine ⟨.int .i64 (band .i64 (IntKind.wrap .i64 (IntKind.wrap .u64 ((IntKind.wrap .u64 ((IntKind.wrap .u64 ((band .u64 (IntKind.wrap .u64 (x3 + (IntKind.wrap .u64 ((band .u64 x2 3689348814741910323) + (band .u64 (IntKind.wrap .u64 ((band .u64 x1 6148914691236517205) + (band .u64 x_1 6148914691236517205))) 3689348814741910323))))) 1085102592571150095) + x4)) + x5)) + x6))) 127), by simp only [ires, iress, Try.results123, SQ, List.toList_toArray, n1, n2, n3, n4, n5, n6], ?_⟩
  exact .cl (closed_int _ _)

theorem w_bits_Set_Count {fuel : Nat} {s_1 : bits_Set} {r0_ : Int} (h : p_bits_Set_Count fuel s_1 = some r0_) : Pure1 Try.prog 72 [.pim [ebits_Set s_1] 0 0] (.int .i64 r0_) := by
  refine Pure1_S (all_cl (cl_pim1 cl_ebits_Set _) all_cl0) fun F H s0 => ?_
  refine U_call 0 Try.func72 rfl (by kernel_rfl) (by simp [Try.ntmps72]) ?_
  rw [Try.ntmps72]
  refine U_fr 23 [(0, .pim [ebits_Set s_1] 0 0)] rfl rfl rfl ?_
  unfold p_bits_Set_Count at h
  refine U_seq ?_
  refine U_reg ?_
  simp only [SQ, n1, n2, n3, n4, n5, n6]
  refine hold_intro ?_
  refine U_seq ?_
  refine U_seq ?_
  refine U_reg ?_
  simp only [SQ, ty44, nil_cmp (P := Try.prog) ty44 rfl, n1, n2, n3, n4, n5, n6]
  refine hold_intro ?_
  refine U_condF rfl ?_
  refine U_skip ?_
  refine U_seq ?_
  refine U_reg ?_
  simp only [SQ, n1, n2, n3, n4, n5, n6]
  refine hold_intro ?_
  refine U_seq ?_
  refine U_seq ?_
  refine U_reg ?_
  simp only [SQ, ty117, ty115, sbits_Set, len_sim ty115 rfl, n1, n2, n3, n4, n5, n6]
  refine hold_intro ?_
  refine U_fr 23 [(3, .int .i64 0), (11, .sim (s_1.words.map (eI .u64)) false), (12, .int .i64 (s_1.words.length : Int)), (13, .int .i64 0)] rfl rfl rfl ?_
  obtain ⟨u1, he1, h⟩ := bndE h
  refine U_cut (fun a' H' => ∃ x_1 : Int, ∃ nv_1 : Int, u1 = .n (x_1, nv_1) ∧ Fi a' 23 [(3, .int .i64 nv_1)] ∧ HS F [] H') (U_block (U_loop (fun z_ a' H' => match z_ with | (m1, x_1, nv_1) => loopE m1 (fun s => p_bits_Set_Count_b1 fuel s_1 s.1 s.2) (x_1, nv_1) = some u1 ∧ Fi a' 23 [(3, .int .i64 nv_1), (11, .sim (s_1.words.map (eI .u64)) false), (12, .int .i64 (s_1.words.length : Int)), (13, .int .i64 x_1)] ∧ HS F [] H' : (Nat × Int × Int) → Fr → Heap → Prop) (fun z_ : Nat × Int × Int => z_.1) (fuel, 0, 0) ?_ ?_)) ?_
  · exact ⟨he1, ⟨rfl, rfl, rfl⟩, s0⟩
  ·
    rintro ⟨m1, x_1, nv_1⟩ a1 H1 ⟨hf1, f1, s1⟩
    refine U_fi f1 ?_
    obtain ⟨m1', m1_lt, u2, hr1, hl2⟩ := loopE_step hf1
    replace hr1 : p_bits_Set_Count_b1 fuel s_1 x_1 nv_1 = some u2 := hr1
    unfold p_bits_Set_Count_b1 at hr1
    refine U_seq ?_
    refine U_reg ?_
    simp only [SQ, n1, n2, n3, n4, n5, n6]
    refine hold_intro ?_
    refine U_seq ?_
    rcases Bool.eq_false_or_eq_true (decide (x_1 < (s_1.words.length : Int))) with hb1 | hb1
    ·
      rw [if_pos hb1] at hr1
      refine U_condT (by simp only [SQ, hb1, n1, n2, n3, n4, n5, n6]) ?_
      refine U_skip ?_
      refine U_seq ?_
      refine U_block ?_
      refine U_seq ?_
      obtain ⟨x1, kx1, hr1⟩ := bndO hr1
      refine U_reg ?_
      simp only [SQ, ty115, ty114, iia_sim (f := eI .u64) ty115 rfl ty114 kx1 rfl, row_sim (f := eI .u64) kx1, hb1, n1, n2, n3, n4, n5, n6]
      refine hold_intro ?_
      refine U_fr 23 [(3, .int .i64 nv_1), (5, .int .u64 x1), (11, .sim (s_1.words.map (eI .u64)) false), (12, .int .i64 (s_1.words.length : Int)), (13, .int .i64 x_1)] rfl rfl rfl ?_
      obtain ⟨r1, kr1, hr1⟩ := bndO hr1
      refine U_reg ?_
      simp only [SQ, hb1, n1, n2, n3, n4, n5, n6]
      refine callP (w_math_bits_OnesCount64 kr1) ?_
      simp only [SQ, hb1, n1, n2, n3, n4, n5, n6]
      refine hold_intro ?_
      refine U_reg ?_
      simp only [SQ, hb1, n1, n2, n3, n4, n5, n6]
      refine hold_intro ?_
      replace hr1 := Option.some.inj hr1
      subst hr1
      exact ⟨(m1', IntKind.wrap .i64 (x_1 + 1), IntKind.wrap .i64 (nv_1 + r1)), m1_lt, hl2, ⟨rfl, rfl, by first | rfl | simp only [SQ, hb1, n1, n2, n3, n4, n5, n6]⟩, s1⟩
    ·
      rw [if_neg (by rw [hb1]; decide)] at hr1
      refine U_condF (by simp only [SQ, hb1, n1, n2, n3, n4, n5, n6]) ?_
      refine U_exit rfl ?_
      replace hr1 := Option.some.inj hr1
      subst hr1
      exact ⟨_, _, hl2, ⟨rfl, rfl, by first | rfl | simp only [SQ, hb1, n1, n2, n3, n4, n5, n6]⟩, s1⟩
  ·
    rintro a2 H2 ⟨x_2, nv_2, rfl, f2, s2⟩
    replace h := outE_n h
    dsimp only at h
    refine U_fi f2 ?_
    refine U_seq ?_
    refine U_reg ?_
    simp only [SQ, n1, n2, n3, n4, n5, n6]
    refine hold_intro ?_
    refine U_ret ?_
    replace h := Option.some.inj h
    subst h
    refine ⟨.int .i64 nv_2, by simp only [ires, iress, Try.results72, SQ, List.toList_toArray, n1, n2, n3, n4, n5, n6], ?_⟩
    exact .cl (closed_int _ _)



theorem w_graph_Graph_list_1 {fuel : Nat} {g_1 : graph_Graph} {i_1 : Int} {which_1 : Int} {r0_ : List Int} (h : p_graph_Graph_list fuel g_1 i_1 which_1 = some r0_) : CallS Try.prog 79 [.pim [egraph_Graph g_1] 0 0, .int .i64 i_1, .int .i64 which_1] [] (fun r L => ∃ w0_0 : IV, (r = w0_0 ∧ L = [sl R3i w0_0 r0_])) := by
  intro F H s0
  refine U_call 0 Try.func79 rfl (by kernel_rfl) (by simp [Try.ntmps79]) ?_
  rw [Try.ntmps79]
  refine U_fr 30 [(0, .pim [egraph_Graph g_1] 0 0), (1, .int .i64 i_1), (2, .int .i64 which_1)] rfl rfl rfl ?_
  unfold p_graph_Graph_list at h
  refine U_seq ?_
  refine U_reg ?_
  simp only [SQ, n1, n2, n3, n4, n5, n6]
  refine hold_intro ?_
  refine U_seq ?_
  refine U_seq ?_
  refine U_fr 30 [(0, .pim [egraph_Graph g_1] 0 0), (1, .int .i64 i_1), (2, .int .i64 which_1)] rfl rfl rfl ?_
  obtain ⟨b1, kb1, h⟩ := bndO h
  refine U_cut (fun a' H' => Fi a' 30 [(0, .pim [egraph_Graph g_1] 0 0), (1, .int .i64 i_1), (2, .int .i64 which_1), (14, .bool b1)] ∧ H = H') ?_ ?_
  · refine U_reg ?_
    rcases Bool.eq_false_or_eq_true (decide (i_1 < 0)) with hb1 | hb1
    ·
      have hx1 := hb1
      rw [if_pos hx1] at kb1
      have hq1 := (Option.some.inj kb1).symm
      simp only [SQ, hb1, hq1, n1, n2, n3, n4, n5, n6]
      refine hold_intro ?_
      exact ⟨⟨rfl, rfl, by first | rfl | simp only [SQ, hb1, hq1, n1, n2, n3, n4, n5, n6]⟩, rfl⟩
    ·
      have hx2 := hb1
      rw [if_neg (by rw [hx2]; decide)] at kb1
      obtain ⟨r1, kr1, kb1⟩ := bndO kb1
      have hq2 := (Option.some.inj kb1).symm
      simp only [SQ, hb1, hq2, n1, n2, n3, n4, n5, n6]
      refine callP (w_graph_Graph_Len kr1) ?_
      simp only [SQ, hb1, hq2, n1, n2, n3, n4, n5, n6]
      refine hold_intro ?_
      exact ⟨⟨rfl, rfl, by first | rfl | simp only [SQ, hb1, hq2, n1, n2, n3, n4, n5, n6]⟩, rfl⟩
  · rintro a1 _ ⟨f1, rfl⟩
    refine U_fi f1 ?_
    rcases Bool.eq_false_or_eq_true (b1) with hb2 | hb2
    ·
      rw [if_pos hb2] at h
      refine U_condT (by simp only [SQ, hb2, n1, n2, n3, n4, n5, n6]) ?_
      refine U_seq ?_
      refine U_reg ?_
      simp only [SQ, hb2, n1, n2, n3, n4, n5, n6]
      refine hold_intro ?_
      refine U_ret ?_
      replace h := Option.some.inj h
      subst h
      have s2 := s0.nil' R3i
      exact ⟨.nils, by simp only [ires, iress, Try.results79, SQ, List.toList_toArray, hb2, n1, n2, n3, n4, n5, n6], _, ⟨_, rfl, rfl⟩, s2.sel [0] (by decide)⟩
    ·
      rw [if_neg (by rw [hb2]; decide)] at h
      refine U_condF (by simp only [SQ, hb2, n1, n2, n3, n4, n5, n6]) ?_
      refine U_skip ?_
      refine U_seq ?_
      refine U_fr 30 [(0, .pim [egraph_Graph g_1] 0 0), (1, .int .i64 i_1), (2, .int .i64 which_1)] rfl rfl rfl ?_
      obtain ⟨c1, kc1, h⟩ := bndO h
      obtain ⟨x1, kx1, h⟩ := bndO h
      obtain ⟨r2, kr2, h⟩ := bndO h
      refine U_cut (fun a' H' => ∃ v1 : IV, Fi a' 30 [(6, v1)] ∧ HS F [sl R3i v1 r2] H') ?_ ?_
      · refine U_drawQ hm [0, 1, 3, 7, 0, 16, 48, 112, 255, 0, 1023, 0, 4095, 8191, 16383, 32767] false 12 (by decide +kernel) (by decide) ?_
        rcases c1 with _ | _
        ·
          try simp only [A2_at_t, A2_at_f] at *
          simp only [SQ, ty108, ty31, sgraph_Graph, ty175, fk175, sA175, index_arr (jn := 0) (m := 0) (ix2_f kc1 rfl) ty175 rfl ty31 (by decide) rfl, ty37, iia_sim (f := eS eInt) ty31 rfl ty37 kx1 rfl, row_sim (f := eS eInt) kx1, hb2, n1, n2, n3, n4, n5, n6]
          refine callS (w_slices_Clone_int_int_own kr2) (s0.sel [] (by decide)) rfl ?_
          rintro w1 H2 _ ⟨_, rfl, rfl⟩ s3
          simp only [SQ, hb2, n1, n2, n3, n4, n5, n6]
          refine hold_intro ?_
          exact ⟨_, ⟨rfl, rfl, by first | rfl | simp only [SQ, hb2, n1, n2, n3, n4, n5, n6]⟩, s3⟩
        ·
          try simp only [A2_at_t, A2_at_f] at *
          simp only [SQ, ty108, ty31, sgraph_Graph, ty175, fk175, sA175, index_arr (jn := 1) (m := 1) (ix2_t kc1 rfl) ty175 rfl ty31 (by decide) rfl, ty37, iia_sim (f := eS eInt) ty31 rfl ty37 kx1 rfl, row_sim (f := eS eInt) kx1, hb2, n1, n2, n3, n4, n5, n6]
          refine callS (w_slices_Clone_int_int_own kr2) (s0.sel [] (by decide)) rfl ?_
          rintro w1 H2 _ ⟨_, rfl, rfl⟩ s3
          simp only [SQ, hb2, n1, n2, n3, n4, n5, n6]
          refine hold_intro ?_
          exact ⟨_, ⟨rfl, rfl, by first | rfl | simp only [SQ, hb2, n1, n2, n3, n4, n5, n6]⟩, s3⟩
      · rintro a2 H3 ⟨v1, f2, s4⟩
        refine U_fi f2 ?_
        refine U_ret ?_
        replace h := Option.some.inj h
        subst h
        exact ⟨v1, by simp only [ires, iress, Try.results79, SQ, List.toList_toArray, hb2, n1, n2, n3, n4, n5, n6], _, ⟨_, rfl, rfl⟩, s4.sel [0] (by decide)⟩

theorem w_graph_Graph_Succ_1 {fuel : Nat} {g_1 : graph_Graph} {i_1 : Int} {r0_ : List Int} (h : p_graph_Graph_Succ fuel g_1 i_1 = some r0_) : CallS Try.prog 20 [.pim [egraph_Graph g_1] 0 0, .int .i64 i_1] [] (fun r L => ∃ w0_0 : IV, (r = w0_0 ∧ L = [sl R3i w0_0 r0_])) := by
  intro F H s0
  refine U_call 0 Try.func20 rfl (by kernel_rfl) (by simp [Try.ntmps20]) ?_
  rw [Try.ntmps20]
  refine U_fr 8 [(0, .pim [egraph_Graph g_1] 0 0), (1, .int .i64 i_1)] rfl rfl rfl ?_
  unfold p_graph_Graph_Succ at h
  refine U_seq ?_
  refine U_reg ?_
  simp only [SQ, n1, n2, n3, n4, n5, n6]
  refine hold_intro ?_
  refine U_seq ?_
  obtain ⟨r1, kr1, h⟩ := bndO h
  refine U_reg ?_
  simp only [SQ, n1, n2, n3, n4, n5, n6]
  refine callS (w_graph_Graph_list_1 kr1) (s0.sel [] (by decide)) rfl ?_
  rintro w1 H1 _ ⟨_, rfl, rfl⟩ s1
  simp only [SQ, n1, n2, n3, n4, n5, n6]
  refine hold_intro ?_
  refine U_ret ?_
  replace h := Option.some.inj h
  subst h
  exact ⟨w1, by simp only [ires, iress, Try.results20, SQ, List.toList_toArray, n1, n2, n3, n4, n5, n6], _, ⟨_, rfl, rfl⟩, s1.sel [0] (by decide)⟩

theorem w_slices_Sort_int_int {fuel : Nat} {l m0_ : List Int} (h : p_slices_Sort_int_int fuel l = some m0_) {v0_ : IV} : CallS Try.prog 78 [v0_] [sl R3i v0_ l] (fun r L => (r = (.tup []) ∧ L = [sl R3i v0_ m0_])) := by
  unfold p_slices_Sort_int_int at h
  split at h
  · cases h
    rw [← merge_isort]
    exact sort_callS Try.slices_Sort_int Try.slices_Sort_int_none ⟨_, Try.func78, rfl, by decide +kernel⟩ (by omega)
  · cases h

theorem w_graph_Graph_Edges {fuel : Nat} {g_1 : graph_Graph} {r0_ : List (A2 Int)} (h : p_graph_Graph_Edges fuel g_1 = some r0_) : Pure1 Try.prog 18 [.pim [egraph_Graph g_1] 0 0] (.sim (r0_.map (eA2 eInt)) false) := by
  refine Pure1_S (all_cl (cl_pim1 cl_egraph_Graph _) all_cl0) fun F H s0 => ?_
  refine U_call 0 Try.func18 rfl (by kernel_rfl) (by simp [Try.ntmps18]) ?_
  rw [Try.ntmps18]
  refine U_fr 33 [(0, .pim [egraph_Graph g_1] 0 0)] rfl rfl rfl ?_
  unfold p_graph_Graph_Edges at h
  refine U_seq ?_
  refine U_reg ?_
  simp only [SQ, n1, n2, n3, n4, n5, n6]
  refine hold_intro ?_
  refine U_seq ?_
  refine U_reg ?_
  simp only [SQ, n1, n2, n3, n4, n5, n6]
  refine hold_intro ?_
  refine U_seq ?_
  refine U_seq ?_
  obtain ⟨r1, kr1, h⟩ := bndO h
  refine U_reg ?_
  simp only [SQ, n1, n2, n3, n4, n5, n6]
  refine callP (w_graph_Graph_Len kr1) ?_
  simp only [SQ, n1, n2, n3, n4, n5, n6]
  refine hold_intro ?_
  refine U_fr 33 [(0, .pim [egraph_Graph g_1] 0 0), (3, .nils), (9, .int .i64 r1), (10, .int .i64 0)] rfl rfl rfl ?_
  obtain ⟨u1, he1, h⟩ := bndE h
  have s2 := s0.nil' R41i
  refine U_cut (fun a' H' => ∃ x_1 : Int, ∃ out_1 : List (A2 Int), u1 = .n (x_1, out_1) ∧ ∃ v1 : IV, Fi a' 33 [(3, v1)] ∧ HS F [sl R41i v1 out_1] H') (U_block (U_loop (fun z_ a' H' => match z_ with | (m1, x_1, out_1) => loopE m1 (fun s => p_graph_Graph_Edges_b1 fuel g_1 r1 s.1 s.2) (x_1, out_1) = some u1 ∧ ∃ v1 : IV, Fi a' 33 [(0, .pim [egraph_Graph g_1] 0 0), (3, v1), (9, .int .i64 r1), (10, .int .i64 x_1)] ∧ HS F [sl R41i v1 out_1] H' : (Nat × Int × (List (A2 Int))) → Fr → Heap → Prop) (fun z_ : Nat × Int × (List (A2 Int)) => z_.1) (fuel, 0, ([] : List (A2 Int))) ?_ ?_)) ?_
  · exact ⟨he1, _, ⟨rfl, rfl, rfl⟩, s2⟩
  ·
    rintro ⟨m1, x_1, out_1⟩ a1 H1 ⟨hf1, v1, f1, s3⟩
    refine U_fi f1 ?_
    obtain ⟨m1', m1_lt, u2, hr1, hl2⟩ := loopE_step hf1
    replace hr1 : p_graph_Graph_Edges_b1 fuel g_1 r1 x_1 out_1 = some u2 := hr1
    unfold p_graph_Graph_Edges_b1 at hr1
    refine U_seq ?_
    refine U_reg ?_
    simp only [SQ, n1, n2, n3, n4, n5, n6]
    refine hold_intro ?_
    refine U_seq ?_
    rcases Bool.eq_false_or_eq_true (decide (x_1 < r1)) with hb1 | hb1
    ·
      rw [if_pos hb1] at hr1
      refine U_condT (by simp only [SQ, hb1, n1, n2, n3, n4, n5, n6]) ?_
      refine U_skip ?_
      refine U_seq ?_
      refine U_block ?_
      refine U_seq ?_
      refine U_reg ?_
      simp only [SQ, hb1, n1, n2, n3, n4, n5, n6]
      refine hold_intro ?_
      refine U_seq ?_
      obtain ⟨r2, kr2, hr1⟩ := bndO hr1
      refine U_reg ?_
      simp only [SQ, hb1, n1, n2, n3, n4, n5, n6]
      refine callS (w_graph_Graph_Succ_1 kr2) (s3.sel [0] (by decide)) rfl ?_
      rintro w1 H2 _ ⟨_, rfl, rfl⟩ s4
      simp only [SQ, hb1, n1, n2, n3, n4, n5, n6]
      refine hold_intro ?_
      refine U_seq ?_
      obtain ⟨m2, km2, hr1⟩ := bndO hr1
      refine U_reg ?_
      simp only [SQ, hb1, n1, n2, n3, n4, n5, n6]
      refine callS (w_slices_Sort_int_int km2) (s4.sel [0, 1] (by decide)) rfl ?_
      rintro _ H3 _ ⟨rfl, rfl⟩ s5
      simp only [SQ, hb1, n1, n2, n3, n4, n5, n6]
      refine hold_intro ?_
      refine U_seq ?_
      refine U_fr 33 [(0, .pim [egraph_Graph g_1] 0 0), (3, v1), (4, .int .i64 x_1), (5, w1), (9, .int .i64 r1), (10, .int .i64 x_1)] rfl rfl rfl ?_
      refine U_reg ?_
      simp only [SQ, s5.len (P := Try.prog) 0 rfl ty37 rfl, hb1, n1, n2, n3, n4, n5, n6]
      refine hold_intro ?_
      refine U_fr 33 [(0, .pim [egraph_Graph g_1] 0 0), (3, v1), (4, .int .i64 x_1), (9, .int .i64 r1), (10, .int .i64 x_1), (18, w1), (19, .int .i64 (m2.length : Int)), (20, .int .i64 0)] rfl rfl rfl ?_
      obtain ⟨u3, he2, hr1⟩ := bndE hr1
      refine U_cut (fun a' H' => ∃ x_3 : Int, ∃ out_3 : List (A2 Int), u3 = .n (x_3, out_3) ∧ ∃ v3 : IV, Fi a' 33 [(0, .pim [egraph_Graph g_1] 0 0), (3, v3), (9, .int .i64 r1), (10, .int .i64 x_1)] ∧ HS F [sl R3i w1 m2, sl R41i v3 out_3] H') (U_block (U_loop (fun z_ a' H' => match z_ with | (m3, x_3, out_3) => loopE m3 (fun s => p_graph_Graph_Edges_b2 fuel x_1 m2 s.1 s.2) (x_3, out_3) = some u3 ∧ ∃ v3 : IV, Fi a' 33 [(0, .pim [egraph_Graph g_1] 0 0), (3, v3), (4, .int .i64 x_1), (9, .int .i64 r1), (10, .int .i64 x_1), (18, w1), (19, .int .i64 (m2.length : Int)), (20, .int .i64 x_3)] ∧ HS F [sl R3i w1 m2, sl R41i v3 out_3] H' : (Nat × Int × (List (A2 Int))) → Fr → Heap → Prop) (fun z_ : Nat × Int × (List (A2 Int)) => z_.1) (fuel, 0, out_1) ?_ ?_)) ?_
      · exact ⟨he2, _, ⟨rfl, rfl, by first | rfl | simp only [SQ, hb1, n1, n2, n3, n4, n5, n6]⟩, s5⟩
      ·
        rintro ⟨m3, x_3, out_3⟩ a2 H4 ⟨hf2, v3, f2, s6⟩
        refine U_fi f2 ?_
        obtain ⟨m3', m3_lt, u4, hr2, hl4⟩ := loopE_step hf2
        replace hr2 : p_graph_Graph_Edges_b2 fuel x_1 m2 x_3 out_3 = some u4 := hr2
        unfold p_graph_Graph_Edges_b2 at hr2
        refine U_seq ?_
        refine U_reg ?_
        simp only [SQ, hb1, n1, n2, n3, n4, n5, n6]
        refine hold_intro ?_
        refine U_seq ?_
        rcases Bool.eq_false_or_eq_true (decide (x_3 < (m2.length : Int))) with hb2 | hb2
        ·
          rw [if_pos hb2] at hr2
          refine U_condT (by simp only [SQ, hb1, hb2, n1, n2, n3, n4, n5, n6]) ?_
          refine U_skip ?_
          refine U_seq ?_
          refine U_block ?_
          refine U_seq ?_
          obtain ⟨x1, kx1, hr2⟩ := bndO hr2
          refine U_reg ?_
          obtain ⟨w2_i, w2_r, w2_a, w2_1⟩ := s6.at (P := Try.prog) (k := .i64) 0 rfl ty37 rfl ty3 rfl kx1
          simp only [SQ, ty37, ty3, w2_1, s6.row 0 rfl w2_a kx1, hb1, hb2, n1, n2, n3, n4, n5, n6]
          refine hold_intro ?_
          obtain ⟨l1, kl1, hr2⟩ := bndO hr2
          refine U_reg ?_
          simp only [SQ, ty41, ty3, fk41, ty34, hb1, hb2, n1, n2, n3, n4, n5, n6]
          refine N_sl ([(⟨x_1, x1⟩ : A2 Int)] : List (A2 Int)) R41i s6 rfl rfl (by first | rfl | simp only [SQ]) (by first | rfl | simp only [List.length_map, List.length_replicate]) (zip_flat rfl) ?_
          intro v5 H5 s7
          simp only [SQ, ty34, ty41, hb1, hb2, n1, n2, n3, n4, n5, n6]
          refine N_app (xs := out_3) (ys := ([(⟨x_1, x1⟩ : A2 Int)] : List (A2 Int))) 2 s7 rfl rfl ty34 rfl ty34 rfl ty41 rfl rfl rfl (by decide) rfl (s7.srowsi 0 rfl) kl1 (fun _ _ e => by cases e) ?_
          intro v6 H6 s8
          simp only [SQ, hb1, hb2, n1, n2, n3, n4, n5, n6]
          refine hold_intro ?_
          refine U_fr 33 [(0, .pim [egraph_Graph g_1] 0 0), (3, v6), (4, .int .i64 x_1), (9, .int .i64 r1), (10, .int .i64 x_1), (18, w1), (19, .int .i64 (m2.length : Int)), (20, .int .i64 x_3)] rfl rfl rfl ?_
          refine U_reg ?_
          simp only [SQ, hb1, hb2, n1, n2, n3, n4, n5, n6]
          refine hold_intro ?_
          replace hr2 := Option.some.inj hr2
          subst hr2
          exact ⟨(m3', IntKind.wrap .i64 (x_3 + 1), l1), m3_lt, hl4, _, ⟨rfl, rfl, by first | rfl | simp only [SQ, hb1, hb2, n1, n2, n3, n4, n5, n6]⟩, s8.sel [2, 0] (by decide)⟩
        ·
          rw [if_neg (by rw [hb2]; decide)] at hr2
          refine U_condF (by simp only [SQ, hb1, hb2, n1, n2, n3, n4, n5, n6]) ?_
          refine U_exit rfl ?_
          replace hr2 := Option.some.inj hr2
          subst hr2
          exact ⟨_, _, hl4, _, ⟨rfl, rfl, by first | rfl | simp only [SQ, hb1, hb2, n1, n2, n3, n4, n5, n6]⟩, s6⟩
      ·
        rintro a3 H7 ⟨x_4, out_4, rfl, v4, f3, s9⟩
        replace hr1 := outE_n hr1
        dsimp only at hr1
        refine U_fi f3 ?_
        refine U_reg ?_
        simp only [SQ, hb1, n1, n2, n3, n4, n5, n6]
        refine hold_intro ?_
        replace hr1 := Option.some.inj hr1
        subst hr1
        exact ⟨(m1', IntKind.wrap .i64 (x_1 + 1), out_4), m1_lt, hl2, _, ⟨rfl, rfl, by first | rfl | simp only [SQ, hb1, n1, n2, n3, n4, n5, n6]⟩, s9.sel [1] (by decide)⟩
    ·
      rw [if_neg (by rw [hb1]; decide)] at hr1
      refine U_condF (by simp only [SQ, hb1, n1, n2, n3, n4, n5, n6]) ?_
      refine U_exit rfl ?_
      replace hr1 := Option.some.inj hr1
      subst hr1
      exact ⟨_, _, hl2, _, ⟨rfl, rfl, by first | rfl | simp only [SQ, hb1, n1, n2, n3, n4, n5, n6]⟩, s3⟩
  ·
    rintro a4 H8 ⟨x_2, out_2, rfl, v2, f4, s10⟩
    replace h := outE_n h
    dsimp only at h
    refine U_fi f4 ?_
    refine U_seq ?_
    refine U_reg ?_
    simp only [SQ, n1, n2, n3, n4, n5, n6]
    refine hold_intro ?_
    refine U_ret ?_
    replace h := Option.some.inj h
    subst h
    refine ⟨v2, by simp only [ires, iress, Try.results18, SQ, List.toList_toArray, n1, n2, n3, n4, n5, n6], ?_⟩
    exact s10.fzS 0 rfl

theorem w_graph_Graph_Away_1 {fuel : Nat} {i_1 : Int} {p_1 : Int} {p_2 : bits_Set} {p_3 : List Int} {m2_ : bits_Set} {m3_ : List Int} (h : p_graph_Graph_Away_1 fuel i_1 p_1 p_2 p_3 = some (m2_, m3_)) {v0_ : IV} {v1_ : IV} {v2_ : IV} : CallS Try.prog 86 [.int .i64 i_1, v0_, v1_, v2_] [bx R3i v0_ p_1, bx R44bt1sie v1_ p_2, bx R37si v2_ p_3] (fun r L => (r = (.tup []) ∧ L = [bx R3i v0_ p_1, bx R44bt1sie v1_ m2_, bx R37si v2_ m3_])) := by
  intro F H s0
  refine U_call 0 Try.func86 rfl (by kernel_rfl) (by simp [Try.ntmps86]) ?_
  rw [Try.ntmps86]
  refine U_fr 17 [(0, .int .i64 i_1), (1, v0_), (2, v1_), (3, v2_)] rfl rfl rfl ?_
  unfold p_graph_Graph_Away_1 at h
  obtain ⟨d1, c1, rfl, s1⟩ := s0.opx 0 rfl
  obtain ⟨rfl, s2⟩ := s1.opi 1 rfl
  obtain ⟨d2, c2, rfl, s3⟩ := s2.opx 1 rfl
  obtain ⟨w1, rfl, s4⟩ := s3.opb 1 rfl
  obtain ⟨d3, c3, rfl, s5⟩ := s4.opx 3 rfl
  obtain ⟨w2, rfl, s6⟩ := s5.ops 1 rfl
  refine U_seq ?_
  obtain ⟨⟨b1, c4⟩, kb1, h⟩ := bndO h
  dsimp only at h
  refine U_cut (fun a' H' => Fi a' 17 [(0, .int .i64 i_1), (3, .pb d3 0 0), (12, .bool b1)] ∧ HS F [pt d1 ⟨1, [[.int .i64 p_1]]⟩, pt d2 ⟨1, [[w1]]⟩, bx R117t1sie w1 c4, pt d3 ⟨1, [[w2]]⟩, sl R3i w2 p_3] H') ?_ ?_
  · refine U_reg ?_
    rcases Bool.eq_false_or_eq_true (decide (i_1 ≠ p_1)) with hb1 | hb1
    ·
      have hx1 := hb1
      rw [if_pos hx1] at kb1
      obtain ⟨⟨r1, m1⟩, kr1, kb1⟩ := bndO kb1
      dsimp only at kb1
      replace kb1 := Option.some.inj kb1
      obtain ⟨q1, q2⟩ := Prod.mk.inj kb1
      clear kb1
      subst q1
      subst q2
      simp only [SQ, ty3, s6.b 4 rfl, ty44, s6.b 2 rfl, hb1, n1, n2, n3, n4, n5, n6]
      refine callS (w_bits_Set_Add kr1) (s6.sel [3, 0, 1, 2, 4] (by decide)) rfl ?_
      rintro _ H1 _ ⟨rfl, rfl⟩ s7
      simp only [SQ, hb1, n1, n2, n3, n4, n5, n6]
      refine hold_intro ?_
      exact ⟨⟨rfl, rfl, by first | rfl | simp only [SQ, hb1, n1, n2, n3, n4, n5, n6]⟩, s7.sel [4, 3, 0, 1, 2] (by decide)⟩
    ·
      have hx2 := hb1
      rw [if_neg (by rw [hx2]; decide)] at kb1
      replace kb1 := Option.some.inj kb1
      obtain ⟨q3, q4⟩ := Prod.mk.inj kb1
      clear kb1
      subst q3
      subst q4
      simp only [SQ, ty3, s6.b 4 rfl, hb1, n1, n2, n3, n4, n5, n6]
      refine hold_intro ?_
      exact ⟨⟨rfl, rfl, by first | rfl | simp only [SQ, hb1, n1, n2, n3, n4, n5, n6]⟩, s6.sel [4, 2, 3, 0, 1] (by decide)⟩
  · rintro a1 H2 ⟨f1, s8⟩
    refine U_fi f1 ?_
    rcases Bool.eq_false_or_eq_true (b1) with hb2 | hb2
    ·
      rw [if_pos hb2] at h
      refine U_condT (by simp only [SQ, hb2, n1, n2, n3, n4, n5, n6]) ?_
      obtain ⟨l1, kl1, h⟩ := bndO h
      refine U_reg ?_
      simp only [SQ, ty37, s8.b 3 rfl, ty3, hb2, n1, n2, n3, n4, n5, n6]
      refine N_sl ([i_1] : List Int) R3i s8 rfl rfl (by first | rfl | simp only [SQ]) (by first | rfl | simp only [List.length_map, List.length_replicate]) (zip_flat rfl) ?_
      intro v1 H3 s9
      simp only [SQ, ty37, ty3, hb2, n1, n2, n3, n4, n5, n6]
      refine N_app (xs := p_3) (ys := ([i_1] : List Int)) 5 s9 rfl rfl ty37 rfl ty37 rfl ty3 rfl rfl rfl (by decide) rfl (s9.srowsi 0 rfl) kl1 (fun _ _ e => by cases e) ?_
      intro v2 H4 s10
      simp only [SQ, ty37, s10.cf 0 rfl, s10.b 5 rfl, hb2, n1, n2, n3, n4, n5, n6]
      refine N_put 5 s10 rfl fun H5 s11 => ?_
      simp only [SQ, hb2, n1, n2, n3, n4, n5, n6]
      refine hold_intro ?_
      replace h := Option.some.inj h
      obtain ⟨q5, q6⟩ := Prod.mk.inj h
      clear h
      subst q5
      subst q6
      have s12 := s11.fold [2, 0, 1, 3, 4, 5] 1 (by decide) (fold_x (R := R3i) (x := p_1) rfl (fold_i rfl))
      have s13 := s12.fold [3, 4, 0, 1, 2, 5] 2 (by decide) (fold_x (R := R44bt1sie) (x := c4) rfl (fold_b))
      have s14 := s13.fold [4, 2, 0, 1, 3] 2 (by decide) (fold_x (R := R37si) (x := l1) rfl (fold_s))
      exact ⟨.tup [], by simp only [ires, iress, Try.results86, SQ, List.toList_toArray, hb2, n1, n2, n3, n4, n5, n6], _, ⟨rfl, rfl⟩, s14.sel [2, 1, 0] (by decide)⟩
    ·
      rw [if_neg (by rw [hb2]; decide)] at h
      refine U_condF (by simp only [SQ, hb2, n1, n2, n3, n4, n5, n6]) ?_
      refine U_skip ?_
      replace h := Option.some.inj h
      obtain ⟨q7, q8⟩ := Prod.mk.inj h
      clear h
      subst q7
      subst q8
      have s15 := s8.fold [0, 1, 2, 3, 4] 1 (by decide) (fold_x (R := R3i) (x := p_1) rfl (fold_i rfl))
      have s16 := s15.fold [1, 2, 0, 3, 4] 2 (by decide) (fold_x (R := R44bt1sie) (x := c4) rfl (fold_b))
      have s17 := s16.fold [2, 3, 0, 1] 2 (by decide) (fold_x (R := R37si) (x := p_3) rfl (fold_s))
      exact ⟨.tup [], by simp only [ires, iress, Try.results86, SQ, List.toList_toArray, hb2, n1, n2, n3, n4, n5, n6], _, ⟨rfl, rfl⟩, s17.sel [2, 1, 0] (by decide)⟩

theorem w_graph_Graph_Away {fuel : Nat} {g_1 : graph_Graph} {tov_1 : Int} {without_1 : Int} {r0_ : bits_Set} (h : p_graph_Graph_Away fuel g_1 tov_1 without_1 = some r0_) : Pure1 Try.prog 29 [.pim [egraph_Graph g_1] 0 0, .int .i64 tov_1, .int .i64 without_1] (.pim [ebits_Set r0_] 0 0) := by
  refine Pure1_S (all_cl (cl_pim1 cl_egraph_Graph _) (all_cl (closed_int _ _) (all_cl (closed_int _ _) all_cl0))) fun F H s0 => ?_
  refine U_call 0 Try.func29 rfl (by kernel_rfl) (by simp [Try.ntmps29]) ?_
  rw [Try.ntmps29]
  refine U_fr 47 [(0, .pim [egraph_Graph g_1] 0 0), (1, .int .i64 tov_1), (2, .int .i64 without_1)] rfl rfl rfl ?_
  unfold p_graph_Graph_Away at h
  refine U_seq ?_
  refine U_reg ?_
  simp only [SQ, ty3, n1, n2, n3, n4, n5, n6]
  refine N_box s0 rfl fun d1 H1 s1 => ?_
  simp only [SQ, n1, n2, n3, n4, n5, n6]
  refine hold_intro ?_
  refine U_seq ?_
  obtain ⟨r1, kr1, h⟩ := bndO h
  obtain ⟨r2, kr2, h⟩ := bndO h
  refine U_reg ?_
  simp only [SQ, n1, n2, n3, n4, n5, n6]
  refine callP (w_graph_Graph_Len kr1) ?_
  simp only [SQ, n1, n2, n3, n4, n5, n6]
  refine callS (w_bits_New_1 kr2) (s1.sel [0] (by decide)) rfl ?_
  rintro w1 H2 _ ⟨_, rfl, rfl⟩ s2
  simp only [SQ, ty44, n1, n2, n3, n4, n5, n6]
  refine N_box s2 rfl fun d2 H3 s3 => ?_
  simp only [SQ, ty44, s3.bf 1 rfl, s3.b 0 rfl, n1, n2, n3, n4, n5, n6]
  refine N_put 0 s3 rfl fun H4 s4 => ?_
  simp only [SQ, n1, n2, n3, n4, n5, n6]
  refine hold_intro ?_
  refine U_seq ?_
  refine U_reg ?_
  simp only [SQ, ty37, n1, n2, n3, n4, n5, n6]
  refine N_box s4 rfl fun d3 H5 s5 => ?_
  simp only [SQ, n1, n2, n3, n4, n5, n6]
  refine hold_intro ?_
  refine U_seq ?_
  refine U_reg ?_
  simp only [SQ, n1, n2, n3, n4, n5, n6]
  refine hold_intro ?_
  refine U_seq ?_
  obtain ⟨⟨m1, m2⟩, km1, h⟩ := bndO h
  dsimp only at h
  refine U_reg ?_
  have s6 := s5.fold [3, 0, 1, 2] 1 (by decide) (fold_x (R := R3i) (x := without_1) rfl (fold_i rfl))
  have s7 := s6.fold [2, 3, 0, 1] 2 (by decide) (fold_x (R := R44bt1sie) (x := r2) rfl (fold_b))
  have s8 := s7.nil' R3i
  have s9 := s8.fold [3, 0, 1, 2] 2 (by decide) (fold_x (R := R37si) (x := ([] : List Int)) rfl (fold_s))
  simp only [SQ, n1, n2, n3, n4, n5, n6]
  refine callS (w_graph_Graph_Away_1 km1) (s9.sel [2, 1, 0] (by decide)) rfl ?_
  rintro _ H6 _ ⟨rfl, rfl⟩ s10
  simp only [SQ, n1, n2, n3, n4, n5, n6]
  refine hold_intro ?_
  refine U_seq ?_
  refine U_fr 47 [(0, .pim [egraph_Graph g_1] 0 0), (7, .pb d2 0 0), (8, .pb d3 0 0), (9, .fn (.func 86) [] [.pb d1 0 0, .pb d2 0 0, .pb d3 0 0])] rfl rfl rfl ?_
  obtain ⟨u1, he1, h⟩ := bndE h
  refine U_cut (fun a' H' => ∃ out_1 : bits_Set, ∃ wait_1 : List Int, u1 = .n (out_1, wait_1) ∧ ∃ v1 : IV, Fi a' 47 [(7, .pb d2 0 0)] ∧ HS F [bx R44bt1sie (.pb d2 0 0) out_1, bx R37si v1 wait_1, bx R3i (.pb d1 0 0) without_1] H') (U_block (U_loop (fun z_ a' H' => match z_ with | (m3, out_1, wait_1) => loopE m3 (fun s => p_graph_Graph_Away_b1 fuel g_1 without_1 s.1 s.2) (out_1, wait_1) = some u1 ∧ ∃ v1 : IV, Fi a' 47 [(0, .pim [egraph_Graph g_1] 0 0), (7, .pb d2 0 0), (8, v1), (9, .fn (.func 86) [] [.pb d1 0 0, .pb d2 0 0, v1])] ∧ HS F [bx R44bt1sie (.pb d2 0 0) out_1, bx R37si v1 wait_1, bx R3i (.pb d1 0 0) without_1] H' : (Nat × bits_Set × (List Int)) → Fr → Heap → Prop) (fun z_ : Nat × bits_Set × (List Int) => z_.1) (fuel, m1, m2) ?_ ?_)) ?_
  · exact ⟨he1, _, ⟨rfl, rfl, rfl⟩, s10.sel [1, 2, 0] (by decide)⟩
  ·
    rintro ⟨m3, out_1, wait_1⟩ a1 H7 ⟨hf1, v1, f1, s11⟩
    refine U_fi f1 ?_
    obtain ⟨m3', m3_lt, u2, hr1, hl2⟩ := loopE_step hf1
    replace hr1 : p_graph_Graph_Away_b1 fuel g_1 without_1 out_1 wait_1 = some u2 := hr1
    unfold p_graph_Graph_Away_b1 at hr1
    refine U_seq ?_
    refine U_seq ?_
    refine U_reg ?_
    obtain ⟨d4, c1, rfl, s12⟩ := s11.opx 1 rfl
    obtain ⟨w2, rfl, s13⟩ := s12.ops 1 rfl
    simp only [SQ, ty37, s13.b 0 rfl, s13.len (P := Try.prog) 1 rfl ty37 rfl, n1, n2, n3, n4, n5, n6]
    refine hold_intro ?_
    rcases Bool.eq_false_or_eq_true (decide (0 < (wait_1.length : Int))) with hb1 | hb1
    ·
      rw [if_pos hb1] at hr1
      refine U_condT (by simp only [SQ, hb1, n1, n2, n3, n4, n5, n6]) ?_
      refine U_skip ?_
      refine U_block ?_
      refine U_seq ?_
      obtain ⟨x1, kx1, hr1⟩ := bndO hr1
      refine U_reg ?_
      obtain ⟨w3_i, w3_r, w3_a, w3_1⟩ := s13.at (P := Try.prog) (k := .i64) 1 rfl ty37 rfl ty3 rfl kx1
      simp only [SQ, ty37, s13.b 0 rfl, s13.len (P := Try.prog) 1 rfl ty37 rfl, ty3, w3_1, s13.row 1 rfl w3_a kx1, hb1, n1, n2, n3, n4, n5, n6]
      refine hold_intro ?_
      refine U_seq ?_
      obtain ⟨l1, kl1, hr1⟩ := bndO hr1
      refine U_reg ?_
      obtain ⟨v3, v3_f, s14⟩ := s13.sli (P := Try.prog) 1 rfl ty37 rfl ty3 rfl (bnds0 kl1) kl1
      simp only [SQ, ty37, s13.b 0 rfl, s13.len (P := Try.prog) 1 rfl ty37 rfl, v3_f, s14.cf 0 rfl, s14.b 1 rfl, hb1, n1, n2, n3, n4, n5, n6]
      refine N_put 1 s14 rfl fun H8 s15 => ?_
      simp only [SQ, hb1, n1, n2, n3, n4, n5, n6]
      refine hold_intro ?_
      refine U_seq ?_
      refine U_fr 47 [(0, .pim [egraph_Graph g_1] 0 0), (7, .pb d2 0 0), (8, .pb d4 0 0), (9, .fn (.func 86) [] [.pb d1 0 0, .pb d2 0 0, .pb d4 0 0]), (10, .int .i64 x1)] rfl rfl rfl ?_
      obtain ⟨r3, kr3, hr1⟩ := bndO hr1
      refine U_reg ?_
      simp only [SQ, hb1, n1, n2, n3, n4, n5, n6]
      refine callP (w_graph_Graph_Pred kr3) ?_
      simp only [SQ, len_sim ty37 rfl, hb1, n1, n2, n3, n4, n5, n6]
      refine hold_intro ?_
      refine U_fr 47 [(0, .pim [egraph_Graph g_1] 0 0), (7, .pb d2 0 0), (8, .pb d4 0 0), (9, .fn (.func 86) [] [.pb d1 0 0, .pb d2 0 0, .pb d4 0 0]), (36, .sim (r3.map eInt) false), (37, .int .i64 (r3.length : Int)), (38, .int .i64 0)] rfl rfl rfl ?_
      obtain ⟨u3, he2, hr1⟩ := bndE hr1
      have s17 := s15.fold [1, 0, 2, 3] 2 (by decide) (fold_x (R := R37si) (x := l1) rfl (fold_s))
      refine U_cut (fun a' H' => ∃ x_1 : Int, ∃ out_3 : bits_Set, ∃ wait_3 : List Int, u3 = .n (x_1, out_3, wait_3) ∧ Fi a' 47 [(0, .pim [egraph_Graph g_1] 0 0), (7, .pb d2 0 0), (8, .pb d4 0 0), (9, .fn (.func 86) [] [.pb d1 0 0, .pb d2 0 0, .pb d4 0 0])] ∧ HS F [bx R44bt1sie (.pb d2 0 0) out_3, bx R37si (.pb d4 0 0) wait_3, bx R3i (.pb d1 0 0) without_1] H') (U_block (U_loop (fun z_ a' H' => match z_ with | (m4, x_1, out_3, wait_3) => loopE m4 (fun s => p_graph_Graph_Away_b2 fuel without_1 r3 s.1 s.2.1 s.2.2) (x_1, out_3, wait_3) = some u3 ∧ Fi a' 47 [(0, .pim [egraph_Graph g_1] 0 0), (7, .pb d2 0 0), (8, .pb d4 0 0), (9, .fn (.func 86) [] [.pb d1 0 0, .pb d2 0 0, .pb d4 0 0]), (36, .sim (r3.map eInt) false), (37, .int .i64 (r3.length : Int)), (38, .int .i64 x_1)] ∧ HS F [bx R44bt1sie (.pb d2 0 0) out_3, bx R37si (.pb d4 0 0) wait_3, bx R3i (.pb d1 0 0) without_1] H' : (Nat × Int × bits_Set × (List Int)) → Fr → Heap → Prop) (fun z_ : Nat × Int × bits_Set × (List Int) => z_.1) (fuel, 0, out_1, l1) ?_ ?_)) ?_
      · exact ⟨he2, ⟨rfl, rfl, by first | rfl | simp only [SQ, hb1, n1, n2, n3, n4, n5, n6]⟩, s17.sel [1, 0, 2] (by decide)⟩
      ·
        rintro ⟨m4, x_1, out_3, wait_3⟩ a2 H9 ⟨hf2, f2, s18⟩
        refine U_fi f2 ?_
        obtain ⟨m4', m4_lt, u4, hr2, hl4⟩ := loopE_step hf2
        replace hr2 : p_graph_Graph_Away_b2 fuel without_1 r3 x_1 out_3 wait_3 = some u4 := hr2
        unfold p_graph_Graph_Away_b2 at hr2
        refine U_seq ?_
        refine U_reg ?_
        simp only [SQ, hb1, n1, n2, n3, n4, n5, n6]
        refine hold_intro ?_
        refine U_seq ?_
        rcases Bool.eq_false_or_eq_true (decide (x_1 < (r3.length : Int))) with hb2 | hb2
        ·
          rw [if_pos hb2] at hr2
          refine U_condT (by simp only [SQ, hb1, hb2, n1, n2, n3, n4, n5, n6]) ?_
          refine U_skip ?_
          refine U_seq ?_
          refine U_block ?_
          refine U_seq ?_
          obtain ⟨x2, kx2, hr2⟩ := bndO hr2
          refine U_reg ?_
          simp only [SQ, ty37, ty3, iia_sim (f := eInt) ty37 rfl ty3 kx2 rfl, row_sim (f := eInt) kx2, hb1, hb2, n1, n2, n3, n4, n5, n6]
          refine hold_intro ?_
          obtain ⟨⟨m5, m6⟩, km5, hr2⟩ := bndO hr2
          dsimp only at hr2
          refine U_reg ?_
          simp only [SQ, hb1, hb2, n1, n2, n3, n4, n5, n6]
          refine callS (w_graph_Graph_Away_1 km5) (s18.sel [2, 0, 1] (by decide)) rfl ?_
          rintro _ H10 _ ⟨rfl, rfl⟩ s19
          simp only [SQ, hb1, hb2, n1, n2, n3, n4, n5, n6]
          refine hold_intro ?_
          refine U_reg ?_
          simp only [SQ, hb1, hb2, n1, n2, n3, n4, n5, n6]
          refine hold_intro ?_
          replace hr2 := Option.some.inj hr2
          subst hr2
          exact ⟨(m4', IntKind.wrap .i64 (x_1 + 1), m5, m6), m4_lt, hl4, ⟨rfl, rfl, by first | rfl | simp only [SQ, hb1, hb2, n1, n2, n3, n4, n5, n6]⟩, s19.sel [1, 2, 0] (by decide)⟩
        ·
          rw [if_neg (by rw [hb2]; decide)] at hr2
          refine U_condF (by simp only [SQ, hb1, hb2, n1, n2, n3, n4, n5, n6]) ?_
          refine U_exit rfl ?_
          replace hr2 := Option.some.inj hr2
          subst hr2
          exact ⟨_, _, _, hl4, ⟨rfl, rfl, by first | rfl | simp only [SQ, hb1, hb2, n1, n2, n3, n4, n5, n6]⟩, s18⟩
      ·
        rintro a3 H11 ⟨x_2, out_4, wait_4, rfl, f3, s20⟩
        replace hr1 := outE_n hr1
        dsimp only at hr1
        replace hr1 := Option.some.inj hr1
        subst hr1
        exact ⟨(m3', out_4, wait_4), m3_lt, hl2, _, (f3.sub rfl), s20⟩
    ·
      rw [if_neg (by rw [hb1]; decide)] at hr1
      refine U_condF (by simp only [SQ, hb1, n1, n2, n3, n4, n5, n6]) ?_
      refine U_exit rfl ?_
      have s21 := s13.fold [0, 1, 2, 3] 2 (by decide) (fold_x (R := R37si) (x := wait_1) rfl (fold_s))
      replace hr1 := Option.some.inj hr1
      subst hr1
      exact ⟨_, _, hl2, _, ⟨rfl, rfl, by first | rfl | simp only [SQ, hb1, n1, n2, n3, n4, n5, n6]⟩, s21.sel [1, 0, 2] (by decide)⟩
  ·
    rintro a4 H12 ⟨out_2, wait_2, rfl, v2, f4, s22⟩
    replace h := outE_n h
    dsimp only at h
    refine U_fi f4 ?_
    refine U_seq ?_
    refine U_reg ?_
    obtain ⟨d5, c2, q1, s23⟩ := s22.opx 0 rfl
    injection q1 with q1 _ _
    subst q1
    obtain ⟨w4, rfl, s24⟩ := s23.opb 1 rfl
    simp only [SQ, ty44, s24.b 0 rfl, n1, n2, n3, n4, n5, n6]
    refine hold_intro ?_
    refine U_ret ?_
    replace h := Option.some.inj h
    subst h
    refine ⟨w4, by simp only [ires, iress, Try.results29, SQ, List.toList_toArray, n1, n2, n3, n4, n5, n6], ?_⟩
    exact s24.fzB 1 rfl

theorem w_dyehouselaw19_works {fuel : Nat} {r0_ : Bool} (h : p_dyehouselaw19_works fuel = some r0_) : Pure1 Try.prog 14 [] (.bool r0_) := by
  refine Pure1_S all_cl0 fun F H s0 => ?_
  refine U_call 0 Try.func14 rfl (by kernel_rfl) (by simp [Try.ntmps14]) ?_
  rw [Try.ntmps14]
  refine U_fr 66 [] rfl rfl rfl ?_
  unfold p_dyehouselaw19_works at h
  refine U_seq ?_
  refine U_reg ?_
  simp only [SQ, n1, n2, n3, n4, n5, n6]
  refine hold_intro ?_
  refine U_seq ?_
  refine U_reg ?_
  simp only [SQ, n1, n2, n3, n4, n5, n6]
  refine hold_intro ?_
  refine U_seq ?_
  obtain ⟨r1, kr1, h⟩ := bndO h
  obtain ⟨r2, kr2, h⟩ := bndO h
  obtain ⟨r3, kr3, h⟩ := bndO h
  obtain ⟨r4, kr4, h⟩ := bndO h
  refine U_reg ?_
  simp only [SQ, ty64, ty9, n1, n2, n3, n4, n5, n6]
  refine N_sl ([(⟨#[99]⟩ : ByteArray), (⟨#[98]⟩ : ByteArray), (⟨#[99]⟩ : ByteArray)] : List ByteArray) R9i s0 rfl rfl (by first | rfl | simp only [SQ]) (by first | rfl | simp only [List.length_map, List.length_replicate]) (zip_flat rfl) ?_
  intro v1 H1 s1
  simp only [SQ, n1, n2, n3, n4, n5, n6]
  refine callS (w_dyehouselaw19_works_1_1 kr1) (s1.sel [0] (by decide)) rfl ?_
  rintro _ H2 _ ⟨rfl, rfl⟩ s2
  simp only [SQ, ty63, fk63, ty64, ty9, n1, n2, n3, n4, n5, n6]
  refine N_sl ([(⟨#[100]⟩ : ByteArray), (⟨#[98]⟩ : ByteArray)] : List ByteArray) R9i s2 rfl rfl (by first | rfl | simp only [SQ]) (by first | rfl | simp only [List.length_map, List.length_replicate]) (zip_flat rfl) ?_
  intro v2 H3 s3
  simp only [SQ, n1, n2, n3, n4, n5, n6]
  refine callS (w_dyehouselaw19_works_1_1 kr2) (s3.sel [0] (by decide)) rfl ?_
  rintro _ H4 _ ⟨rfl, rfl⟩ s4
  simp only [SQ, ty63, fk63, ty64, ty9, n1, n2, n3, n4, n5, n6]
  refine N_sl ([(⟨#[100]⟩ : ByteArray)] : List ByteArray) R9i s4 rfl rfl (by first | rfl | simp only [SQ]) (by first | rfl | simp only [List.length_map, List.length_replicate]) (zip_flat rfl) ?_
  intro v3 H5 s5
  simp only [SQ, n1, n2, n3, n4, n5, n6]
  refine callS (w_dyehouselaw19_works_1_1 kr3) (s5.sel [0] (by decide)) rfl ?_
  rintro _ H6 _ ⟨rfl, rfl⟩ s6
  simp only [SQ, ty63, fk63, ty64, ty9, n1, n2, n3, n4, n5, n6]
  refine N_sl ([(⟨#[100]⟩ : ByteArray)] : List ByteArray) R9i s6 rfl rfl (by first | rfl | simp only [SQ]) (by first | rfl | simp only [List.length_map, List.length_replicate]) (zip_flat rfl) ?_
  intro v4 H7 s7
  simp only [SQ, n1, n2, n3, n4, n5, n6]
  refine callS (w_dyehouselaw19_works_1_1 kr4) (s7.sel [0] (by decide)) rfl ?_
  rintro _ H8 _ ⟨rfl, rfl⟩ s8
  simp only [SQ, ty63, fk63, ty24, n1, n2, n3, n4, n5, n6]
  refine N_lit s8 rfl fun d5 H9 s9 => ?_
  simp only [SQ, ty26, fk26, n1, n2, n3, n4, n5, n6]
  refine N_box s9 rfl fun d6 H10 s10 => ?_
  simp only [SQ, ty26, s10.b 0 rfl, n1, n2, n3, n4, n5, n6]
  refine N_put 0 s10 rfl fun H11 s11 => ?_
  simp only [SQ, n1, n2, n3, n4, n5, n6]
  refine hold_intro ?_
  refine U_fr 66 [(0, .bool false), (1, .fn (.func 75) [] []), (2, .pb d6 0 0)] rfl rfl rfl ?_
  refine U_rowsN (f := eBl) (fl := true) (hm := fun _ => rfl) (hc := cl_eBl) ([(⟨(⟨#[97]⟩ : ByteArray), false, [], r1⟩ : Bl), (⟨(⟨#[98]⟩ : ByteArray), false, [], r2⟩ : Bl), (⟨(⟨#[99]⟩ : ByteArray), false, [], r3⟩ : Bl), (⟨(⟨#[100]⟩ : ByteArray), false, [], []⟩ : Bl), (⟨(⟨#[101]⟩ : ByteArray), false, [], r4⟩ : Bl)] : List Bl) 1 s11 rfl rfl rfl (Sbr.get (.c (.s (.s (.x .n (.s .nil)))) (.c (.s (.s (.x .n (.s .nil)))) (.c (.s (.s (.x .n (.s .nil)))) (.c (.s (.s (.x .n (.x .n .nil)))) (.c (.s (.s (.x .n (.s .nil)))) .nil)))))) fun H12 s12 => ?_
  refine U_seq ?_
  refine U_fr 66 [(2, .pb d6 0 0)] rfl rfl rfl ?_
  refine U_fzS (l' := [(2, .pb d6 0 0)]) (M := [pt d6 ⟨5, [[.bool false, .str (⟨#[]⟩ : ByteArray), .nils, .nils, .sim (([(⟨(⟨#[97]⟩ : ByteArray), false, [], r1⟩ : Bl), (⟨(⟨#[98]⟩ : ByteArray), false, [], r2⟩ : Bl), (⟨(⟨#[99]⟩ : ByteArray), false, [], r3⟩ : Bl), (⟨(⟨#[100]⟩ : ByteArray), false, [], []⟩ : Bl), (⟨(⟨#[101]⟩ : ByteArray), false, [], r4⟩ : Bl)] : List Bl).map eBl) false]]⟩]) 1 s12 rfl R63i_nl .id (.r (.s (.s (.s (.s (.x .o .id))))) .id) fun H13 s13 => ?_
  obtain ⟨r5, kr5, h⟩ := bndO h
  refine U_reg ?_
  simp only [SQ, ty26, s13.b 0 rfl, n1, n2, n3, n4, n5, n6]
  refine callP (Pure1.sub (w_graph_New kr5) ((Subs.cons (Sub_agg ((Subs.cons Sub.refl (Subs.cons Sub.refl (Subs.cons sub_nils (Subs.cons sub_nils (Subs.cons Sub.refl Subs.nil))))))) Subs.nil)) ((all_cl (closed_agg ((all_cl (closed_bool _) (all_cl (closed_str _) (all_cl (closed_nils) (all_cl (closed_nils) (all_cl (cl_map cl_eBl ([(⟨(⟨#[97]⟩ : ByteArray), false, [], r1⟩ : Bl), (⟨(⟨#[98]⟩ : ByteArray), false, [], r2⟩ : Bl), (⟨(⟨#[99]⟩ : ByteArray), false, [], r3⟩ : Bl), (⟨(⟨#[100]⟩ : ByteArray), false, [], []⟩ : Bl), (⟨(⟨#[101]⟩ : ByteArray), false, [], r4⟩ : Bl)] : List Bl)) all_cl0))))))) all_cl0))) ?_
  simp only [SQ, n1, n2, n3, n4, n5, n6]
  refine hold_intro ?_
  refine U_seq ?_
  refine U_seq ?_
  refine U_reg ?_
  simp only [SQ, ty29, nil_cmp (P := Try.prog) ty29 rfl, n1, n2, n3, n4, n5, n6]
  refine hold_intro ?_
  refine U_condF rfl ?_
  refine U_skip ?_
  refine U_seq ?_
  refine U_fr 66 [(3, .pim [egraph_Graph r5] 0 0)] rfl rfl rfl ?_
  obtain ⟨r6, kr6, h⟩ := bndO h
  obtain ⟨r7, kr7, h⟩ := bndO h
  obtain ⟨b1, kb1, h⟩ := bndO h
  obtain ⟨b2, kb2, h⟩ := bndO h
  obtain ⟨b3, kb3, h⟩ := bndO h
  obtain ⟨b4, kb4, h⟩ := bndO h
  obtain ⟨b5, kb5, h⟩ := bndO h
  obtain ⟨b6, kb6, h⟩ := bndO h
  refine U_cut (fun a' H' => Fi a' 66 [(0, .bool b6)] ∧ HS F [] H') ?_ ?_
  · refine U_reg ?_
    rcases Bool.eq_false_or_eq_true (r7) with hb1 | hb1
    ·
      have hx1 := hb1
      rw [if_pos hx1] at kb1
      obtain ⟨r8, kr8, kb1⟩ := bndO kb1
      obtain ⟨r9, kr9, kb1⟩ := bndO kb1
      have hq1 := (Option.some.inj kb1).symm
      rcases Bool.eq_false_or_eq_true (r9) with hb2 | hb2
      ·
        have hx2 : b1 = true := by simp only [SQ, hb1, hq1, hb2]
        rw [if_pos hx2] at kb2
        obtain ⟨r10, kr10, kb2⟩ := bndO kb2
        obtain ⟨r11, kr11, kb2⟩ := bndO kb2
        have hq2 := (Option.some.inj kb2).symm
        rcases Bool.eq_false_or_eq_true (r11) with hb3 | hb3
        ·
          have hx3 : b2 = true := by simp only [SQ, hb1, hq1, hb2, hq2, hb3]
          rw [if_pos hx3] at kb3
          obtain ⟨r12, kr12, kb3⟩ := bndO kb3
          obtain ⟨r13, kr13, kb3⟩ := bndO kb3
          have hq3 := (Option.some.inj kb3).symm
          rcases Bool.eq_false_or_eq_true (decide (r13 = 4)) with hb4 | hb4
          ·
            have hx4 : b3 = true := by simp only [SQ, hb1, hq1, hb2, hq2, hb3, hq3, hb4]
            rw [if_pos hx4] at kb4
            obtain ⟨r14, kr14, kb4⟩ := bndO kb4
            have hq4 := (Option.some.inj kb4).symm
            rcases Bool.eq_false_or_eq_true (decide ((r14.length : Int) = 6)) with hb5 | hb5
            ·
              have hx5 : b4 = true := by simp only [SQ, hb1, hq1, hb2, hq2, hb3, hq3, hb4, hq4, hb5]
              rw [if_pos hx5] at kb5
              obtain ⟨r15, kr15, kb5⟩ := bndO kb5
              have hq5 := (Option.some.inj kb5).symm
              rcases Bool.eq_false_or_eq_true (decide (r15 = 5)) with hb6 | hb6
              ·
                have hx6 : b5 = true := by simp only [SQ, hb1, hq1, hb2, hq2, hb3, hq3, hb4, hq4, hb5, hq5, hb6]
                rw [if_pos hx6] at kb6
                obtain ⟨r16, kr16, kb6⟩ := bndO kb6
                obtain ⟨r17, kr17, kb6⟩ := bndO kb6
                have hq6 := (Option.some.inj kb6).symm
                simp only [SQ, hb1, hq1, hb2, hq2, hb3, hq3, hb4, hq4, hb5, hq5, hb6, hq6, n1, n2, n3, n4, n5, n6]
                refine callP (w_graph_Graph_Succ kr6) ?_
                simp only [SQ, ty37, ty3, hb1, hq1, hb2, hq2, hb3, hq3, hb4, hq4, hb5, hq5, hb6, hq6, n1, n2, n3, n4, n5, n6]
                refine N_sl ([2, 1] : List Int) R3i s13 rfl rfl (by first | rfl | simp only [SQ]) (by first | rfl | simp only [List.length_map, List.length_replicate]) (zip_flat rfl) ?_
                intro v5 H14 s14
                simp only [SQ, hb1, hq1, hb2, hq2, hb3, hq3, hb4, hq4, hb5, hq5, hb6, hq6, n1, n2, n3, n4, n5, n6]
                refine callLd (w_dyehouseref12_Ints kr7) (.cons (.cl (cl_map cl_eInt r6)) (.cons (s14.fzS 0 rfl) (.nil))) (flat_bool _) ?_
                simp only [SQ, hb1, hq1, hb2, hq2, hb3, hq3, hb4, hq4, hb5, hq5, hb6, hq6, n1, n2, n3, n4, n5, n6]
                refine callP (w_graph_Graph_Pred kr8) ?_
                simp only [SQ, ty37, ty3, hb1, hq1, hb2, hq2, hb3, hq3, hb4, hq4, hb5, hq5, hb6, hq6, n1, n2, n3, n4, n5, n6]
                refine N_sl ([1, 2, 4] : List Int) R3i s14 rfl rfl (by first | rfl | simp only [SQ]) (by first | rfl | simp only [List.length_map, List.length_replicate]) (zip_flat rfl) ?_
                intro v6 H15 s15
                simp only [SQ, hb1, hq1, hb2, hq2, hb3, hq3, hb4, hq4, hb5, hq5, hb6, hq6, n1, n2, n3, n4, n5, n6]
                refine callLd (w_dyehouseref12_Ints kr9) (.cons (.cl (cl_map cl_eInt r8)) (.cons (s15.fzS 0 rfl) (.nil))) (flat_bool _) ?_
                have s16 := s15.sel [1, 2] (by decide)
                simp only [SQ, hb1, hq1, hb2, hq2, hb3, hq3, hb4, hq4, hb5, hq5, hb6, hq6, n1, n2, n3, n4, n5, n6]
                refine callP (w_graph_Graph_Order kr10) ?_
                simp only [SQ, ty37, ty3, hb1, hq1, hb2, hq2, hb3, hq3, hb4, hq4, hb5, hq5, hb6, hq6, n1, n2, n3, n4, n5, n6]
                refine N_sl ([0, 1, 2, 3] : List Int) R3i s16 rfl rfl (by first | rfl | simp only [SQ]) (by first | rfl | simp only [List.length_map, List.length_replicate]) (zip_flat rfl) ?_
                intro v7 H16 s17
                simp only [SQ, hb1, hq1, hb2, hq2, hb3, hq3, hb4, hq4, hb5, hq5, hb6, hq6, n1, n2, n3, n4, n5, n6]
                refine callLd (w_dyehouseref12_Ints kr11) (.cons (.cl (cl_map cl_eInt r10)) (.cons (s17.fzS 0 rfl) (.nil))) (flat_bool _) ?_
                have s18 := s17.sel [1, 2] (by decide)
                simp only [SQ, hb1, hq1, hb2, hq2, hb3, hq3, hb4, hq4, hb5, hq5, hb6, hq6, n1, n2, n3, n4, n5, n6]
                refine callP (w_graph_Graph_Reached kr12) ?_
                simp only [SQ, hb1, hq1, hb2, hq2, hb3, hq3, hb4, hq4, hb5, hq5, hb6, hq6, n1, n2, n3, n4, n5, n6]
                refine callP (w_bits_Set_Count kr13) ?_
                simp only [SQ, hb1, hq1, hb2, hq2, hb3, hq3, hb4, hq4, hb5, hq5, hb6, hq6, n1, n2, n3, n4, n5, n6]
                refine callP (w_graph_Graph_Edges kr14) ?_
                simp only [SQ, len_sim ty34 rfl, hb1, hq1, hb2, hq2, hb3, hq3, hb4, hq4, hb5, hq5, hb6, hq6, n1, n2, n3, n4, n5, n6]
                refine callP (w_graph_Graph_Len kr15) ?_
                simp only [SQ, hb1, hq1, hb2, hq2, hb3, hq3, hb4, hq4, hb5, hq5, hb6, hq6, n1, n2, n3, n4, n5, n6]
                refine callP (w_graph_Graph_Away kr16) ?_
                simp only [SQ, hb1, hq1, hb2, hq2, hb3, hq3, hb4, hq4, hb5, hq5, hb6, hq6, n1, n2, n3, n4, n5, n6]
                refine callP (w_bits_Set_Count kr17) ?_
                simp only [SQ, hb1, hq1, hb2, hq2, hb3, hq3, hb4, hq4, hb5, hq5, hb6, hq6, n1, n2, n3, n4, n5, n6]
                refine hold_intro ?_
                exact ⟨⟨rfl, rfl, by first | rfl | simp only [SQ, hb1, hq1, hb2, hq2, hb3, hq3, hb4, hq4, hb5, hq5, hb6, hq6, n1, n2, n3, n4, n5, n6]⟩, (by (try rw [hq1]); (try rw [hq2]); (try rw [hq3]); (try rw [hq4]); (try rw [hq5]); (try rw [hq6]); exact s18.sel [] (by decide))⟩
              ·
                have hx7 : b5 = false := by simp only [SQ, hb1, hq1, hb2, hq2, hb3, hq3, hb4, hq4, hb5, hq5, hb6]
                rw [if_neg (by rw [hx7]; decide)] at kb6
                have hq7 := (Option.some.inj kb6).symm
                simp only [SQ, hb1, hq1, hb2, hq2, hb3, hq3, hb4, hq4, hb5, hq5, hb6, hq7, n1, n2, n3, n4, n5, n6]
                refine callP (w_graph_Graph_Succ kr6) ?_
                simp only [SQ, ty37, ty3, hb1, hq1, hb2, hq2, hb3, hq3, hb4, hq4, hb5, hq5, hb6, hq7, n1, n2, n3, n4, n5, n6]
                refine N_sl ([2, 1] : List Int) R3i s13 rfl rfl (by first | rfl | simp only [SQ]) (by first | rfl | simp only [List.length_map, List.length_replicate]) (zip_flat rfl) ?_
                intro v5 H14 s14
                simp only [SQ, hb1, hq1, hb2, hq2, hb3, hq3, hb4, hq4, hb5, hq5, hb6, hq7, n1, n2, n3, n4, n5, n6]
                refine callLd (w_dyehouseref12_Ints kr7) (.cons (.cl (cl_map cl_eInt r6)) (.cons (s14.fzS 0 rfl) (.nil))) (flat_bool _) ?_
                simp only [SQ, hb1, hq1, hb2, hq2, hb3, hq3, hb4, hq4, hb5, hq5, hb6, hq7, n1, n2, n3, n4, n5, n6]
                refine callP (w_graph_Graph_Pred kr8) ?_
                simp only [SQ, ty37, ty3, hb1, hq1, hb2, hq2, hb3, hq3, hb4, hq4, hb5, hq5, hb6, hq7, n1, n2, n3, n4, n5, n6]
                refine N_sl ([1, 2, 4] : List Int) R3i s14 rfl rfl (by first | rfl | simp only [SQ]) (by first | rfl | simp only [List.length_map, List.length_replicate]) (zip_flat rfl) ?_
                intro v6 H15 s15
                simp only [SQ, hb1, hq1, hb2, hq2, hb3, hq3, hb4, hq4, hb5, hq5, hb6, hq7, n1, n2, n3, n4, n5, n6]
                refine callLd (w_dyehouseref12_Ints kr9) (.cons (.cl (cl_map cl_eInt r8)) (.cons (s15.fzS 0 rfl) (.nil))) (flat_bool _) ?_
                have s16 := s15.sel [1, 2] (by decide)
                simp only [SQ, hb1, hq1, hb2, hq2, hb3, hq3, hb4, hq4, hb5, hq5, hb6, hq7, n1, n2, n3, n4, n5, n6]
                refine callP (w_graph_Graph_Order kr10) ?_
                simp only [SQ, ty37, ty3, hb1, hq1, hb2, hq2, hb3, hq3, hb4, hq4, hb5, hq5, hb6, hq7, n1, n2, n3, n4, n5, n6]
                refine N_sl ([0, 1, 2, 3] : List Int) R3i s16 rfl rfl (by first | rfl | simp only [SQ]) (by first | rfl | simp only [List.length_map, List.length_replicate]) (zip_flat rfl) ?_
                intro v7 H16 s17
                simp only [SQ, hb1, hq1, hb2, hq2, hb3, hq3, hb4, hq4, hb5, hq5, hb6, hq7, n1, n2, n3, n4, n5, n6]
                refine callLd (w_dyehouseref12_Ints kr11) (.cons (.cl (cl_map cl_eInt r10)) (.cons (s17.fzS 0 rfl) (.nil))) (flat_bool _) ?_
                have s18 := s17.sel [1, 2] (by decide)
                simp only [SQ, hb1, hq1, hb2, hq2, hb3, hq3, hb4, hq4, hb5, hq5, hb6, hq7, n1, n2, n3, n4, n5, n6]
                refine callP (w_graph_Graph_Reached kr12) ?_
                simp only [SQ, hb1, hq1, hb2, hq2, hb3, hq3, hb4, hq4, hb5, hq5, hb6, hq7, n1, n2, n3, n4, n5, n6]
                refine callP (w_bits_Set_Count kr13) ?_
                simp only [SQ, hb1, hq1, hb2, hq2, hb3, hq3, hb4, hq4, hb5, hq5, hb6, hq7, n1, n2, n3, n4, n5, n6]
                refine callP (w_graph_Graph_Edges kr14) ?_
                simp only [SQ, len_sim ty34 rfl, hb1, hq1, hb2, hq2, hb3, hq3, hb4, hq4, hb5, hq5, hb6, hq7, n1, n2, n3, n4, n5, n6]
                refine callP (w_graph_Graph_Len kr15) ?_
                simp only [SQ, hb1, hq1, hb2, hq2, hb3, hq3, hb4, hq4, hb5, hq5, hb6, hq7, n1, n2, n3, n4, n5, n6]
                refine hold_intro ?_
                exact ⟨⟨rfl, rfl, by first | rfl | simp only [SQ, hb1, hq1, hb2, hq2, hb3, hq3, hb4, hq4, hb5, hq5, hb6, hq7, n1, n2, n3, n4, n5, n6]⟩, (by (try rw [hq1]); (try rw [hq2]); (try rw [hq3]); (try rw [hq4]); (try rw [hq5]); (try rw [hq7]); exact s18.sel [] (by decide))⟩
            ·
              have hx8 : b4 = false := by simp only [SQ, hb1, hq1, hb2, hq2, hb3, hq3, hb4, hq4, hb5]
              rw [if_neg (by rw [hx8]; decide)] at kb5
              have hq8 := (Option.some.inj kb5).symm
              have hx9 : b5 = false := by simp only [SQ, hb1, hq1, hb2, hq2, hb3, hq3, hb4, hq4, hb5, hq8]
              rw [if_neg (by rw [hx9]; decide)] at kb6
              have hq9 := (Option.some.inj kb6).symm
              simp only [SQ, hb1, hq1, hb2, hq2, hb3, hq3, hb4, hq4, hb5, hq8, hq9, n1, n2, n3, n4, n5, n6]
              refine callP (w_graph_Graph_Succ kr6) ?_
              simp only [SQ, ty37, ty3, hb1, hq1, hb2, hq2, hb3, hq3, hb4, hq4, hb5, hq8, hq9, n1, n2, n3, n4, n5, n6]
              refine N_sl ([2, 1] : List Int) R3i s13 rfl rfl (by first | rfl | simp only [SQ]) (by first | rfl | simp only [List.length_map, List.length_replicate]) (zip_flat rfl) ?_
              intro v5 H14 s14
              simp only [SQ, hb1, hq1, hb2, hq2, hb3, hq3, hb4, hq4, hb5, hq8, hq9, n1, n2, n3, n4, n5, n6]
              refine callLd (w_dyehouseref12_Ints kr7) (.cons (.cl (cl_map cl_eInt r6)) (.cons (s14.fzS 0 rfl) (.nil))) (flat_bool _) ?_
              simp only [SQ, hb1, hq1, hb2, hq2, hb3, hq3, hb4, hq4, hb5, hq8, hq9, n1, n2, n3, n4, n5, n6]
              refine callP (w_graph_Graph_Pred kr8) ?_
              simp only [SQ, ty37, ty3, hb1, hq1, hb2, hq2, hb3, hq3, hb4, hq4, hb5, hq8, hq9, n1, n2, n3, n4, n5, n6]
              refine N_sl ([1, 2, 4] : List Int) R3i s14 rfl rfl (by first | rfl | simp only [SQ]) (by first | rfl | simp only [List.length_map, List.length_replicate]) (zip_flat rfl) ?_
              intro v6 H15 s15
              simp only [SQ, hb1, hq1, hb2, hq2, hb3, hq3, hb4, hq4, hb5, hq8, hq9, n1, n2, n3, n4, n5, n6]
              refine callLd (w_dyehouseref12_Ints kr9) (.cons (.cl (cl_map cl_eInt r8)) (.cons (s15.fzS 0 rfl) (.nil))) (flat_bool _) ?_
              have s16 := s15.sel [1, 2] (by decide)
              simp only [SQ, hb1, hq1, hb2, hq2, hb3, hq3, hb4, hq4, hb5, hq8, hq9, n1, n2, n3, n4, n5, n6]
              refine callP (w_graph_Graph_Order kr10) ?_
              simp only [SQ, ty37, ty3, hb1, hq1, hb2, hq2, hb3, hq3, hb4, hq4, hb5, hq8, hq9, n1, n2, n3, n4, n5, n6]
              refine N_sl ([0, 1, 2, 3] : List Int) R3i s16 rfl rfl (by first | rfl | simp only [SQ]) (by first | rfl | simp only [List.length_map, List.length_replicate]) (zip_flat rfl) ?_
              intro v7 H16 s17
              simp only [SQ, hb1, hq1, hb2, hq2, hb3, hq3, hb4, hq4, hb5, hq8, hq9, n1, n2, n3, n4, n5, n6]
              refine callLd (w_dyehouseref12_Ints kr11) (.cons (.cl (cl_map cl_eInt r10)) (.cons (s17.fzS 0 rfl) (.nil))) (flat_bool _) ?_
              have s18 := s17.sel [1, 2] (by decide)
              simp only [SQ, hb1, hq1, hb2, hq2, hb3, hq3, hb4, hq4, hb5, hq8, hq9, n1, n2, n3, n4, n5, n6]
              refine callP (w_graph_Graph_Reached kr12) ?_
              simp only [SQ, hb1, hq1, hb2, hq2, hb3, hq3, hb4, hq4, hb5, hq8, hq9, n1, n2, n3, n4, n5, n6]
              refine callP (w_bits_Set_Count kr13) ?_
              simp only [SQ, hb1, hq1, hb2, hq2, hb3, hq3, hb4, hq4, hb5, hq8, hq9, n1, n2, n3, n4, n5, n6]
              refine callP (w_graph_Graph_Edges kr14) ?_
              simp only [SQ, len_sim ty34 rfl, hb1, hq1, hb2, hq2, hb3, hq3, hb4, hq4, hb5, hq8, hq9, n1, n2, n3, n4, n5, n6]
              refine hold_intro ?_
              exact ⟨⟨rfl, rfl, by first | rfl | simp only [SQ, hb1, hq1, hb2, hq2, hb3, hq3, hb4, hq4, hb5, hq8, hq9, n1, n2, n3, n4, n5, n6]⟩, (by (try rw [hq1]); (try rw [hq2]); (try rw [hq3]); (try rw [hq4]); (try rw [hq8]); (try rw [hq9]); exact s18.sel [] (by decide))⟩
          ·
            have hx10 : b3 = false := by simp only [SQ, hb1, hq1, hb2, hq2, hb3, hq3, hb4]
            rw [if_neg (by rw [hx10]; decide)] at kb4
            have hq10 := (Option.some.inj kb4).symm
            have hx11 : b4 = false := by simp only [SQ, hb1, hq1, hb2, hq2, hb3, hq3, hb4, hq10]
            rw [if_neg (by rw [hx11]; decide)] at kb5
            have hq11 := (Option.some.inj kb5).symm
            have hx12 : b5 = false := by simp only [SQ, hb1, hq1, hb2, hq2, hb3, hq3, hb4, hq10, hq11]
            rw [if_neg (by rw [hx12]; decide)] at kb6
            have hq12 := (Option.some.inj kb6).symm
            simp only [SQ, hb1, hq1, hb2, hq2, hb3, hq3, hb4, hq10, hq11, hq12, n1, n2, n3, n4, n5, n6]
            refine callP (w_graph_Graph_Succ kr6) ?_
            simp only [SQ, ty37, ty3, hb1, hq1, hb2, hq2, hb3, hq3, hb4, hq10, hq11, hq12, n1, n2, n3, n4, n5, n6]
            refine N_sl ([2, 1] : List Int) R3i s13 rfl rfl (by first | rfl | simp only [SQ]) (by first | rfl | simp only [List.length_map, List.length_replicate]) (zip_flat rfl) ?_
            intro v5 H14 s14
            simp only [SQ, hb1, hq1, hb2, hq2, hb3, hq3, hb4, hq10, hq11, hq12, n1, n2, n3, n4, n5, n6]
            refine callLd (w_dyehouseref12_Ints kr7) (.cons (.cl (cl_map cl_eInt r6)) (.cons (s14.fzS 0 rfl) (.nil))) (flat_bool _) ?_
            simp only [SQ, hb1, hq1, hb2, hq2, hb3, hq3, hb4, hq10, hq11, hq12, n1, n2, n3, n4, n5, n6]
            refine callP (w_graph_Graph_Pred kr8) ?_
            simp only [SQ, ty37, ty3, hb1, hq1, hb2, hq2, hb3, hq3, hb4, hq10, hq11, hq12, n1, n2, n3, n4, n5, n6]
            refine N_sl ([1, 2, 4] : List Int) R3i s14 rfl rfl (by first | rfl | simp only [SQ]) (by first | rfl | simp only [List.length_map, List.length_replicate]) (zip_flat rfl) ?_
            intro v6 H15 s15
            simp only [SQ, hb1, hq1, hb2, hq2, hb3, hq3, hb4, hq10, hq11, hq12, n1, n2, n3, n4, n5, n6]
            refine callLd (w_dyehouseref12_Ints kr9) (.cons (.cl (cl_map cl_eInt r8)) (.cons (s15.fzS 0 rfl) (.nil))) (flat_bool _) ?_
            have s16 := s15.sel [1, 2] (by decide)
            simp only [SQ, hb1, hq1, hb2, hq2, hb3, hq3, hb4, hq10, hq11, hq12, n1, n2, n3, n4, n5, n6]
            refine callP (w_graph_Graph_Order kr10) ?_
            simp only [SQ, ty37, ty3, hb1, hq1, hb2, hq2, hb3, hq3, hb4, hq10, hq11, hq12, n1, n2, n3, n4, n5, n6]
            refine N_sl ([0, 1, 2, 3] : List Int) R3i s16 rfl rfl (by first | rfl | simp only [SQ]) (by first | rfl | simp only [List.length_map, List.length_replicate]) (zip_flat rfl) ?_
            intro v7 H16 s17
            simp only [SQ, hb1, hq1, hb2, hq2, hb3, hq3, hb4, hq10, hq11, hq12, n1, n2, n3, n4, n5, n6]
            refine callLd (w_dyehouseref12_Ints kr11) (.cons (.cl (cl_map cl_eInt r10)) (.cons (s17.fzS 0 rfl) (.nil))) (flat_bool _) ?_
            have s18 := s17.sel [1, 2] (by decide)
            simp only [SQ, hb1, hq1, hb2, hq2, hb3, hq3, hb4, hq10, hq11, hq12, n1, n2, n3, n4, n5, n6]
            refine callP (w_graph_Graph_Reached kr12) ?_
            simp only [SQ, hb1, hq1, hb2, hq2, hb3, hq3, hb4, hq10, hq11, hq12, n1, n2, n3, n4, n5, n6]
            refine callP (w_bits_Set_Count kr13) ?_
            simp only [SQ, hb1, hq1, hb2, hq2, hb3, hq3, hb4, hq10, hq11, hq12, n1, n2, n3, n4, n5, n6]
            refine hold_intro ?_
            exact ⟨⟨rfl, rfl, by first | rfl | simp only [SQ, hb1, hq1, hb2, hq2, hb3, hq3, hb4, hq10, hq11, hq12, n1, n2, n3, n4, n5, n6]⟩, (by (try rw [hq1]); (try rw [hq2]); (try rw [hq3]); (try rw [hq10]); (try rw [hq11]); (try rw [hq12]); exact s18.sel [] (by decide))⟩
        ·
          have hx13 : b2 = false := by simp only [SQ, hb1, hq1, hb2, hq2, hb3]
          rw [if_neg (by rw [hx13]; decide)] at kb3
          have hq13 := (Option.some.inj kb3).symm
          have hx14 : b3 = false := by simp only [SQ, hb1, hq1, hb2, hq2, hb3, hq13]
          rw [if_neg (by rw [hx14]; decide)] at kb4
          have hq14 := (Option.some.inj kb4).symm
          have hx15 : b4 = false := by simp only [SQ, hb1, hq1, hb2, hq2, hb3, hq13, hq14]
          rw [if_neg (by rw [hx15]; decide)] at kb5
          have hq15 := (Option.some.inj kb5).symm
          have hx16 : b5 = false := by simp only [SQ, hb1, hq1, hb2, hq2, hb3, hq13, hq14, hq15]
          rw [if_neg (by rw [hx16]; decide)] at kb6
          have hq16 := (Option.some.inj kb6).symm
          simp only [SQ, hb1, hq1, hb2, hq2, hb3, hq13, hq14, hq15, hq16, n1, n2, n3, n4, n5, n6]
          refine callP (w_graph_Graph_Succ kr6) ?_
          simp only [SQ, ty37, ty3, hb1, hq1, hb2, hq2, hb3, hq13, hq14, hq15, hq16, n1, n2, n3, n4, n5, n6]
          refine N_sl ([2, 1] : List Int) R3i s13 rfl rfl (by first | rfl | simp only [SQ]) (by first | rfl | simp only [List.length_map, List.length_replicate]) (zip_flat rfl) ?_
          intro v5 H14 s14
          simp only [SQ, hb1, hq1, hb2, hq2, hb3, hq13, hq14, hq15, hq16, n1, n2, n3, n4, n5, n6]
          refine callLd (w_dyehouseref12_Ints kr7) (.cons (.cl (cl_map cl_eInt r6)) (.cons (s14.fzS 0 rfl) (.nil))) (flat_bool _) ?_
          simp only [SQ, hb1, hq1, hb2, hq2, hb3, hq13, hq14, hq15, hq16, n1, n2, n3, n4, n5, n6]
          refine callP (w_graph_Graph_Pred kr8) ?_
          simp only [SQ, ty37, ty3, hb1, hq1, hb2, hq2, hb3, hq13, hq14, hq15, hq16, n1, n2, n3, n4, n5, n6]
          refine N_sl ([1, 2, 4] : List Int) R3i s14 rfl rfl (by first | rfl | simp only [SQ]) (by first | rfl | simp only [List.length_map, List.length_replicate]) (zip_flat rfl) ?_
          intro v6 H15 s15
          simp only [SQ, hb1, hq1, hb2, hq2, hb3, hq13, hq14, hq15, hq16, n1, n2, n3, n4, n5, n6]
          refine callLd (w_dyehouseref12_Ints kr9) (.cons (.cl (cl_map cl_eInt r8)) (.cons (s15.fzS 0 rfl) (.nil))) (flat_bool _) ?_
          have s16 := s15.sel [1, 2] (by decide)
          simp only [SQ, hb1, hq1, hb2, hq2, hb3, hq13, hq14, hq15, hq16, n1, n2, n3, n4, n5, n6]
          refine callP (w_graph_Graph_Order kr10) ?_
          simp only [SQ, ty37, ty3, hb1, hq1, hb2, hq2, hb3, hq13, hq14, hq15, hq16, n1, n2, n3, n4, n5, n6]
          refine N_sl ([0, 1, 2, 3] : List Int) R3i s16 rfl rfl (by first | rfl | simp only [SQ]) (by first | rfl | simp only [List.length_map, List.length_replicate]) (zip_flat rfl) ?_
          intro v7 H16 s17
          simp only [SQ, hb1, hq1, hb2, hq2, hb3, hq13, hq14, hq15, hq16, n1, n2, n3, n4, n5, n6]
          refine callLd (w_dyehouseref12_Ints kr11) (.cons (.cl (cl_map cl_eInt r10)) (.cons (s17.fzS 0 rfl) (.nil))) (flat_bool _) ?_
          have s18 := s17.sel [1, 2] (by decide)
          simp only [SQ, hb1, hq1, hb2, hq2, hb3, hq13, hq14, hq15, hq16, n1, n2, n3, n4, n5, n6]
          refine hold_intro ?_
          exact ⟨⟨rfl, rfl, by first | rfl | simp only [SQ, hb1, hq1, hb2, hq2, hb3, hq13, hq14, hq15, hq16, n1, n2, n3, n4, n5, n6]⟩, (by (try rw [hq1]); (try rw [hq2]); (try rw [hq13]); (try rw [hq14]); (try rw [hq15]); (try rw [hq16]); exact s18.sel [] (by decide))⟩
      ·
        have hx17 : b1 = false := by simp only [SQ, hb1, hq1, hb2]
        rw [if_neg (by rw [hx17]; decide)] at kb2
        have hq17 := (Option.some.inj kb2).symm
        have hx18 : b2 = false := by simp only [SQ, hb1, hq1, hb2, hq17]
        rw [if_neg (by rw [hx18]; decide)] at kb3
        have hq18 := (Option.some.inj kb3).symm
        have hx19 : b3 = false := by simp only [SQ, hb1, hq1, hb2, hq17, hq18]
        rw [if_neg (by rw [hx19]; decide)] at kb4
        have hq19 := (Option.some.inj kb4).symm
        have hx20 : b4 = false := by simp only [SQ, hb1, hq1, hb2, hq17, hq18, hq19]
        rw [if_neg (by rw [hx20]; decide)] at kb5
        have hq20 := (Option.some.inj kb5).symm
        have hx21 : b5 = false := by simp only [SQ, hb1, hq1, hb2, hq17, hq18, hq19, hq20]
        rw [if_neg (by rw [hx21]; decide)] at kb6
        have hq21 := (Option.some.inj kb6).symm
        simp only [SQ, hb1, hq1, hb2, hq17, hq18, hq19, hq20, hq21, n1, n2, n3, n4, n5, n6]
        refine callP (w_graph_Graph_Succ kr6) ?_
        simp only [SQ, ty37, ty3, hb1, hq1, hb2, hq17, hq18, hq19, hq20, hq21, n1, n2, n3, n4, n5, n6]
        refine N_sl ([2, 1] : List Int) R3i s13 rfl rfl (by first | rfl | simp only [SQ]) (by first | rfl | simp only [List.length_map, List.length_replicate]) (zip_flat rfl) ?_
        intro v5 H14 s14
        simp only [SQ, hb1, hq1, hb2, hq17, hq18, hq19, hq20, hq21, n1, n2, n3, n4, n5, n6]
        refine callLd (w_dyehouseref12_Ints kr7) (.cons (.cl (cl_map cl_eInt r6)) (.cons (s14.fzS 0 rfl) (.nil))) (flat_bool _) ?_
        simp only [SQ, hb1, hq1, hb2, hq17, hq18, hq19, hq20, hq21, n1, n2, n3, n4, n5, n6]
        refine callP (w_graph_Graph_Pred kr8) ?_
        simp only [SQ, ty37, ty3, hb1, hq1, hb2, hq17, hq18, hq19, hq20, hq21, n1, n2, n3, n4, n5, n6]
        refine N_sl ([1, 2, 4] : List Int) R3i s14 rfl rfl (by first | rfl | simp only [SQ]) (by first | rfl | simp only [List.length_map, List.length_replicate]) (zip_flat rfl) ?_
        intro v6 H15 s15
        simp only [SQ, hb1, hq1, hb2, hq17, hq18, hq19, hq20, hq21, n1, n2, n3, n4, n5, n6]
        refine callLd (w_dyehouseref12_Ints kr9) (.cons (.cl (cl_map cl_eInt r8)) (.cons (s15.fzS 0 rfl) (.nil))) (flat_bool _) ?_
        have s16 := s15.sel [1, 2] (by decide)
        have s18 := s16
        simp only [SQ, hb1, hq1, hb2, hq17, hq18, hq19, hq20, hq21, n1, n2, n3, n4, n5, n6]
        refine hold_intro ?_
        exact ⟨⟨rfl, rfl, by first | rfl | simp only [SQ, hb1, hq1, hb2, hq17, hq18, hq19, hq20, hq21, n1, n2, n3, n4, n5, n6]⟩, (by (try rw [hq1]); (try rw [hq17]); (try rw [hq18]); (try rw [hq19]); (try rw [hq20]); (try rw [hq21]); exact s18.sel [] (by decide))⟩
    ·
      have hx22 := hb1
      rw [if_neg (by rw [hx22]; decide)] at kb1
      have hq22 := (Option.some.inj kb1).symm
      have hx23 : b1 = false := by simp only [SQ, hb1, hq22]
      rw [if_neg (by rw [hx23]; decide)] at kb2
      have hq23 := (Option.some.inj kb2).symm
      have hx24 : b2 = false := by simp only [SQ, hb1, hq22, hq23]
      rw [if_neg (by rw [hx24]; decide)] at kb3
      have hq24 := (Option.some.inj kb3).symm
      have hx25 : b3 = false := by simp only [SQ, hb1, hq22, hq23, hq24]
      rw [if_neg (by rw [hx25]; decide)] at kb4
      have hq25 := (Option.some.inj kb4).symm
      have hx26 : b4 = false := by simp only [SQ, hb1, hq22, hq23, hq24, hq25]
      rw [if_neg (by rw [hx26]; decide)] at kb5
      have hq26 := (Option.some.inj kb5).symm
      have hx27 : b5 = false := by simp only [SQ, hb1, hq22, hq23, hq24, hq25, hq26]
      rw [if_neg (by rw [hx27]; decide)] at kb6
      have hq27 := (Option.some.inj kb6).symm
      simp only [SQ, hb1, hq22, hq23, hq24, hq25, hq26, hq27, n1, n2, n3, n4, n5, n6]
      refine callP (w_graph_Graph_Succ kr6) ?_
      simp only [SQ, ty37, ty3, hb1, hq22, hq23, hq24, hq25, hq26, hq27, n1, n2, n3, n4, n5, n6]
      refine N_sl ([2, 1] : List Int) R3i s13 rfl rfl (by first | rfl | simp only [SQ]) (by first | rfl | simp only [List.length_map, List.length_replicate]) (zip_flat rfl) ?_
      intro v5 H14 s14
      simp only [SQ, hb1, hq22, hq23, hq24, hq25, hq26, hq27, n1, n2, n3, n4, n5, n6]
      refine callLd (w_dyehouseref12_Ints kr7) (.cons (.cl (cl_map cl_eInt r6)) (.cons (s14.fzS 0 rfl) (.nil))) (flat_bool _) ?_
      have s16 := s14
      have s18 := s16
      simp only [SQ, hb1, hq22, hq23, hq24, hq25, hq26, hq27, n1, n2, n3, n4, n5, n6]
      refine hold_intro ?_
      exact ⟨⟨rfl, rfl, by first | rfl | simp only [SQ, hb1, hq22, hq23, hq24, hq25, hq26, hq27, n1, n2, n3, n4, n5, n6]⟩, (by (try rw [hq22]); (try rw [hq23]); (try rw [hq24]); (try rw [hq25]); (try rw [hq26]); (try rw [hq27]); exact s18.sel [] (by decide))⟩
  · rintro a1 H17 ⟨f1, s19⟩
    refine U_fi f1 ?_
    refine U_ret ?_
    replace h := Option.some.inj h
    subst h
    refine ⟨.bool b6, by simp only [ires, iress, Try.results14, SQ, List.toList_toArray, n1, n2, n3, n4, n5, n6], ?_⟩
    exact .cl (closed_bool _)

theorem w_dyehouseref12_vreg {fuel : Nat} {v_1 : Int} {r0_ : Opd} (h : p_dyehouseref12_vreg fuel v_1 = some r0_) : Pure1 Try.prog 88 [.int .i64 v_1] (.agg (eOpd r0_)) := by
  refine Pure1_S (all_cl (closed_int _ _) all_cl0) fun F H s0 => ?_
  refine U_call 0 Try.func88 rfl (by kernel_rfl) (by simp [Try.ntmps88]) ?_
  rw [Try.ntmps88]
  refine U_fr 5 [(0, .int .i64 v_1)] rfl rfl rfl ?_
  unfold p_dyehouseref12_vreg at h
  refine U_seq ?_
  refine U_reg ?_
  simp only [SQ, ty58, n1, n2, n3, n4, n5, n6]
  refine N_box s0 rfl fun d1 H1 s1 => ?_
  simp only [SQ, n1, n2, n3, n4, n5, n6]
  refine hold_intro ?_
  refine U_seq ?_
  refine U_reg ?_
  simp only [SQ, ty58, fk58, s1.b 0 rfl, n1, n2, n3, n4, n5, n6]
  refine N_put 0 s1 rfl fun H2 s2 => ?_
  simp only [SQ, n1, n2, n3, n4, n5, n6]
  refine hold_intro ?_
  refine U_ret ?_
  replace h := Option.some.inj h
  subst h
  refine ⟨.agg [.int .i64 1, .int .i64 0, .int .i64 v_1, .int .i64 0], by simp only [ires, iress, Try.results88, SQ, List.toList_toArray, s2.b 0 rfl, ty58, n1, n2, n3, n4, n5, n6], ?_⟩
  exact Fz_agg (.cons (.cl (closed_int _ _)) (.cons (.cl (closed_int _ _)) (.cons (.cl (closed_int _ _)) (.cons (.cl (closed_int _ _)) (.nil)))))

theorem w_dyehouseref12_imm {fuel : Nat} {nv_1 : Int} {r0_ : Opd} (h : p_dyehouseref12_imm fuel nv_1 = some r0_) : Pure1 Try.prog 89 [.int .i64 nv_1] (.agg (eOpd r0_)) := by
  refine Pure1_S (all_cl (closed_int _ _) all_cl0) fun F H s0 => ?_
  refine U_call 0 Try.func89 rfl (by kernel_rfl) (by simp [Try.ntmps89]) ?_
  rw [Try.ntmps89]
  refine U_fr 5 [(0, .int .i64 nv_1)] rfl rfl rfl ?_
  unfold p_dyehouseref12_imm at h
  refine U_seq ?_
  refine U_reg ?_
  simp only [SQ, ty58, n1, n2, n3, n4, n5, n6]
  refine N_box s0 rfl fun d1 H1 s1 => ?_
  simp only [SQ, n1, n2, n3, n4, n5, n6]
  refine hold_intro ?_
  refine U_seq ?_
  refine U_reg ?_
  simp only [SQ, ty58, fk58, s1.b 0 rfl, n1, n2, n3, n4, n5, n6]
  refine N_put 0 s1 rfl fun H2 s2 => ?_
  simp only [SQ, n1, n2, n3, n4, n5, n6]
  refine hold_intro ?_
  refine U_ret ?_
  replace h := Option.some.inj h
  subst h
  refine ⟨.agg [.int .i64 4, .int .i64 0, .int .i64 nv_1, .int .i64 0], by simp only [ires, iress, Try.results89, SQ, List.toList_toArray, s2.b 0 rfl, ty58, n1, n2, n3, n4, n5, n6], ?_⟩
  exact Fz_agg (.cons (.cl (closed_int _ _)) (.cons (.cl (closed_int _ _)) (.cons (.cl (closed_int _ _)) (.cons (.cl (closed_int _ _)) (.nil)))))

theorem w_dyehouseref12_In {fuel : Nat} {l_1 : List Int} {nv_1 : Int} {r0_ : Bool} (h : p_dyehouseref12_In fuel l_1 nv_1 = some r0_) : Pure1 Try.prog 23 [.sim (l_1.map eInt) false, .int .i64 nv_1] (.bool r0_) := by
  refine Pure1_S (all_cl (cl_map cl_eInt l_1) (all_cl (closed_int _ _) all_cl0)) fun F H s0 => ?_
  refine U_call 0 Try.func23 rfl (by kernel_rfl) (by simp [Try.ntmps23]) ?_
  rw [Try.ntmps23]
  refine U_fr 18 [(0, .sim (l_1.map eInt) false), (1, .int .i64 nv_1)] rfl rfl rfl ?_
  unfold p_dyehouseref12_In at h
  refine U_seq ?_
  refine U_reg ?_
  simp only [SQ, n1, n2, n3, n4, n5, n6]
  refine hold_intro ?_
  refine U_seq ?_
  refine U_seq ?_
  refine U_reg ?_
  simp only [SQ, n1, n2, n3, n4, n5, n6]
  refine hold_intro ?_
  refine U_fr 18 [(0, .sim (l_1.map eInt) false), (1, .int .i64 nv_1), (5, .int .i64 0)] rfl rfl rfl ?_
  obtain ⟨u1, he1, h⟩ := bndE h
  obtain ⟨hhi1, hlo1, he1⟩ := toE_facts he1
  refine U_cut (fun a' H' => u1 = .n () ∧ Fi a' 18 [] ∧ HS F [] H') (U_block (U_loop (fun z_ a' H' => match z_ with | i1 => forE ((l_1.length : Int) - i1).toNat i1 (fun i _ => p_dyehouseref12_In_b1 fuel l_1 nv_1 i) () = some u1 ∧ 0 ≤ i1 ∧ Fi a' 18 [(0, .sim (l_1.map eInt) false), (1, .int .i64 nv_1), (5, .int .i64 i1)] ∧ HS F [] H' : Int → Fr → Heap → Prop) (fun z_ : Int => ((l_1.length : Int) - z_).toNat) 0 ?_ ?_)) ?_
  · exact ⟨he1, Int.le_refl _, ⟨rfl, rfl, rfl⟩, s0⟩
  ·
    rintro i1 a1 H1 ⟨hf1, hl1, f1, s1⟩
    refine U_fi f1 ?_
    by_cases hlt1 : i1 < (l_1.length : Int)
    ·
      obtain ⟨u2, hr1, hl2⟩ := forE_step hf1 hlt1
      replace hr1 : p_dyehouseref12_In_b1 fuel l_1 nv_1 i1 = some u2 := hr1
      unfold p_dyehouseref12_In_b1 at hr1
      have hw1 := wrap_next hlt1 hhi1 hlo1 hl1
      have hlt1_t : decide (i1 < (l_1.length : Int)) = true := decide_eq_true hlt1
      refine U_seq (U_seq ?_)
      refine U_reg ?_
      simp only [SQ, len_sim ty37 rfl, hw1, hlt1_t, n1, n2, n3, n4, n5, n6]
      refine hold_intro ?_
      refine U_condT (by simp only [SQ, hw1, hlt1_t, n1, n2, n3, n4, n5, n6]) (U_skip ?_)
      refine U_seq ?_
      refine U_block ?_
      refine U_seq ?_
      obtain ⟨x1, kx1, hr1⟩ := bndO hr1
      refine U_reg ?_
      simp only [SQ, ty37, ty3, iia_sim (f := eInt) ty37 rfl ty3 kx1 rfl, row_sim (f := eInt) kx1, hw1, hlt1_t, n1, n2, n3, n4, n5, n6]
      refine hold_intro ?_
      rcases Bool.eq_false_or_eq_true (decide (x1 = nv_1)) with hb1 | hb1
      ·
        rw [if_pos hb1] at hr1
        refine U_condT (by simp only [SQ, hw1, hlt1_t, hb1, n1, n2, n3, n4, n5, n6]) ?_
        refine U_seq ?_
        refine U_reg ?_
        simp only [SQ, hw1, hlt1_t, hb1, n1, n2, n3, n4, n5, n6]
        refine hold_intro ?_
        refine U_ret ?_
        replace hr1 := Option.some.inj hr1
        subst hr1
        replace hl2 : u1 = .r _ := hl2
        subst hl2
        replace h := outE_r h
        replace h := Option.some.inj h
        subst h
        refine ⟨.bool true, by simp only [ires, iress, Try.results23, SQ, List.toList_toArray, hw1, hlt1_t, hb1, n1, n2, n3, n4, n5, n6], ?_⟩
        exact .cl (closed_bool _)
      ·
        rw [if_neg (by rw [hb1]; decide)] at hr1
        refine U_condF (by simp only [SQ, hw1, hlt1_t, hb1, n1, n2, n3, n4, n5, n6]) ?_
        refine U_skip ?_
        refine U_reg ?_
        simp only [SQ, hw1, hlt1_t, hb1, n1, n2, n3, n4, n5, n6]
        refine hold_intro ?_
        replace hr1 := Option.some.inj hr1
        subst hr1
        refine ⟨i1 + 1, ?_, hl2, Int.le_add_one hl1, ⟨rfl, rfl, by first | rfl | simp only [SQ, hw1, hlt1_t, hb1, n1, n2, n3, n4, n5, n6]⟩, s1⟩
        show ((l_1.length : Int) - (i1 + 1)).toNat < ((l_1.length : Int) - i1).toNat; omega
    ·
      have hlt1_e := forE_end hf1 hlt1
      have hlt1_t : decide (i1 < (l_1.length : Int)) = false := decide_eq_false hlt1
      refine U_seq (U_seq ?_)
      refine U_reg ?_
      simp only [SQ, len_sim ty37 rfl, hlt1_t, n1, n2, n3, n4, n5, n6]
      refine hold_intro ?_
      refine U_condF (by simp only [SQ, hlt1_t, n1, n2, n3, n4, n5, n6]) (U_exit rfl ?_)
      exact ⟨hlt1_e, ⟨rfl, rfl, by first | rfl | simp only [SQ, hlt1_t, n1, n2, n3, n4, n5, n6]⟩, s1⟩
  ·
    rintro a2 H2 ⟨rfl, f2, s2⟩
    replace h := outE_n h
    refine U_fi f2 ?_
    refine U_seq ?_
    refine U_reg ?_
    simp only [SQ, n1, n2, n3, n4, n5, n6]
    refine hold_intro ?_
    refine U_ret ?_
    replace h := Option.some.inj h
    subst h
    refine ⟨.bool false, by simp only [ires, iress, Try.results23, SQ, List.toList_toArray, n1, n2, n3, n4, n5, n6], ?_⟩
    exact .cl (closed_bool _)

theorem w_dyehouseref12_maker_use {fuel : Nat} {m_1 : dyehouseref12_maker} {classv_1 : Int} {k_1 : Int} {r0_ : Opd} (h : p_dyehouseref12_maker_use fuel m_1 classv_1 k_1 = some r0_) : Pure1 Try.prog 133 [.pim [edyehouseref12_maker m_1] 0 0, .int .i64 classv_1, .int .u8 k_1] (.agg (eOpd r0_)) := by
  refine Pure1_S (all_cl (cl_pim1 cl_edyehouseref12_maker _) (all_cl (closed_int _ _) (all_cl (closed_int _ _) all_cl0))) fun F H s0 => ?_
  refine U_call 0 Try.func133 rfl (by kernel_rfl) (by simp [Try.ntmps133]) ?_
  rw [Try.ntmps133]
  refine U_fr 35 [(0, .pim [edyehouseref12_maker m_1] 0 0), (1, .int .i64 classv_1), (2, .int .u8 k_1)] rfl rfl rfl ?_
  unfold p_dyehouseref12_maker_use at h
  refine U_seq ?_
  refine U_reg ?_
  simp only [SQ, ty58, n1, n2, n3, n4, n5, n6]
  refine N_box s0 rfl fun d1 H1 s1 => ?_
  simp only [SQ, n1, n2, n3, n4, n5, n6]
  refine hold_intro ?_
  refine U_seq ?_
  refine U_fr 35 [(0, .pim [edyehouseref12_maker m_1] 0 0), (1, .int .i64 classv_1), (2, .int .u8 k_1), (6, .pb d1 0 0)] rfl rfl rfl ?_
  obtain ⟨c1, kc1, h⟩ := bndO h
  refine U_cut (fun a' H' => Fi a' 35 [(0, .pim [edyehouseref12_maker m_1] 0 0), (2, .int .u8 k_1), (6, .pb d1 0 0), (7, .sim ((m_1.ids.at c1).map eInt) false)] ∧ H1 = H') ?_ ?_
  · refine U_reg ?_
    rcases c1 with _ | _
    ·
      try simp only [A2_at_t, A2_at_f] at *
      simp only [SQ, ty125, ty88, ty37, iia_arrV (P := Try.prog) (jn := 0) (m := 0) (ix2_f kc1 rfl) ty88 rfl ty37 (by decide) rfl, sdyehouseref12_maker, n1, n2, n3, n4, n5, n6]
      refine hold_intro ?_
      exact ⟨⟨rfl, rfl, rfl⟩, rfl⟩
    ·
      try simp only [A2_at_t, A2_at_f] at *
      simp only [SQ, ty125, ty88, ty37, iia_arrV (P := Try.prog) (jn := 1) (m := 1) (ix2_t kc1 rfl) ty88 rfl ty37 (by decide) rfl, sdyehouseref12_maker, n1, n2, n3, n4, n5, n6]
      refine hold_intro ?_
      exact ⟨⟨rfl, rfl, rfl⟩, rfl⟩
  · rintro a1 _ ⟨f1, rfl⟩
    refine U_fi f1 ?_
    refine U_seq ?_
    obtain ⟨x1, kx1, h⟩ := bndO h
    obtain ⟨x2, kx2, h⟩ := bndO h
    refine U_reg ?_
    simp only [SQ, conv_int ty5 ty3 rfl, len_sim ty37 rfl, bin_rem' kx1, ty37, ty3, iia_sim (f := eInt) ty37 rfl ty3 kx2 rfl, row_sim (f := eInt) kx2, n1, n2, n3, n4, n5, n6]
    refine hold_intro ?_
    refine U_seq ?_
    refine U_fr 35 [(0, .pim [edyehouseref12_maker m_1] 0 0), (6, .pb d1 0 0), (7, .sim ((m_1.ids.at c1).map eInt) false), (8, .int .i64 x2)] rfl rfl rfl ?_
    obtain ⟨v_1, kj1, h⟩ := bndO h
    refine U_cut (fun a' H' => Fi a' 35 [(6, .pb d1 0 0), (8, .int .i64 v_1)] ∧ HS F [pt d1 ⟨4, [[.int .i64 0, .int .i64 0, .int .i64 0, .int .i64 0]]⟩] H') ?_ ?_
    ·
      refine U_seq ?_
      obtain ⟨r1, kr1, kj1⟩ := bndO kj1
      refine U_reg ?_
      simp only [SQ, ty125, ty37, sdyehouseref12_maker, n1, n2, n3, n4, n5, n6]
      refine callP (w_dyehouseref12_In kr1) ?_
      simp only [SQ, n1, n2, n3, n4, n5, n6]
      refine hold_intro ?_
      rcases Bool.eq_false_or_eq_true ((!r1)) with hb1 | hb1
      ·
        rw [if_pos hb1] at kj1
        refine U_condT (by simp only [SQ, hb1, n1, n2, n3, n4, n5, n6]) ?_
        obtain ⟨x3, kx3, kj1⟩ := bndO kj1
        refine U_reg ?_
        simp only [SQ, ty37, ty3, iia_sim (f := eInt) ty37 rfl ty3 kx3 rfl, row_sim (f := eInt) kx3, hb1, n1, n2, n3, n4, n5, n6]
        refine hold_intro ?_
        replace kj1 := Option.some.inj kj1
        subst kj1
        exact ⟨⟨rfl, rfl, by first | rfl | simp only [SQ, hb1, n1, n2, n3, n4, n5, n6]⟩, s1⟩
      ·
        rw [if_neg (by rw [hb1]; decide)] at kj1
        refine U_condF (by simp only [SQ, hb1, n1, n2, n3, n4, n5, n6]) ?_
        refine U_skip ?_
        replace kj1 := Option.some.inj kj1
        subst kj1
        exact ⟨⟨rfl, rfl, by first | rfl | simp only [SQ, hb1, n1, n2, n3, n4, n5, n6]⟩, s1⟩
    ·
      rintro a2 H3 ⟨f2, s3⟩
      refine U_fi f2 ?_
      refine U_seq ?_
      obtain ⟨r2, kr2, h⟩ := bndO h
      refine U_reg ?_
      simp only [SQ, n1, n2, n3, n4, n5, n6]
      refine callP (w_dyehouseref12_vreg kr2) ?_
      simp only [SQ, ty58, sOpd, splice_all', s3.b 0 rfl, n1, n2, n3, n4, n5, n6]
      refine N_put 0 s3 rfl fun H4 s4 => ?_
      simp only [SQ, n1, n2, n3, n4, n5, n6]
      refine hold_intro ?_
      refine U_ret ?_
      replace h := Option.some.inj h
      subst h
      refine ⟨.agg (eOpd r2), by simp only [ires, iress, Try.results133, SQ, List.toList_toArray, s4.b 0 rfl, sOpd, ty58, n1, n2, n3, n4, n5, n6], ?_⟩
      exact .cl (cl_agg (cl_eOpd _))

theorem w_dyehouseref12_label {fuel : Nat} {i_1 : Int} {r0_ : ByteArray} (h : p_dyehouseref12_label fuel i_1 = some r0_) : Pure1 Try.prog 92 [.int .i64 i_1] (.str r0_) := by
  refine Pure1_S (all_cl (closed_int _ _) all_cl0) fun F H s0 => ?_
  refine U_call 0 Try.func92 rfl (by kernel_rfl) (by simp [Try.ntmps92]) ?_
  rw [Try.ntmps92]
  refine U_fr 10 [(0, .int .i64 i_1)] rfl rfl rfl ?_
  unfold p_dyehouseref12_label at h
  refine U_seq ?_
  refine U_reg ?_
  simp only [SQ, n1, n2, n3, n4, n5, n6]
  refine hold_intro ?_
  refine U_seq ?_
  refine U_seq ?_
  refine U_reg ?_
  simp only [SQ, n1, n2, n3, n4, n5, n6]
  refine hold_intro ?_
  rcases Bool.eq_false_or_eq_true (decide (i_1 = 0)) with hb1 | hb1
  ·
    rw [if_pos hb1] at h
    refine U_condT (by simp only [SQ, hb1, n1, n2, n3, n4, n5, n6]) ?_
    refine U_seq ?_
    refine U_reg ?_
    simp only [SQ, hb1, n1, n2, n3, n4, n5, n6]
    refine hold_intro ?_
    refine U_ret ?_
    replace h := Option.some.inj h
    subst h
    refine ⟨.str (⟨#[101, 110, 116, 114, 121]⟩ : ByteArray), by simp only [ires, iress, Try.results92, SQ, List.toList_toArray, hb1, n1, n2, n3, n4, n5, n6], ?_⟩
    exact .cl (closed_str _)
  ·
    rw [if_neg (by rw [hb1]; decide)] at h
    refine U_condF (by simp only [SQ, hb1, n1, n2, n3, n4, n5, n6]) ?_
    refine U_skip ?_
    refine U_seq ?_
    obtain ⟨s1, ks1, h⟩ := bndO h
    obtain ⟨s2, ks2, h⟩ := bndO h
    refine U_reg ?_
    simp only [SQ, slice_str ty9 rfl ks1, bin_sadd ks2, hb1, n1, n2, n3, n4, n5, n6]
    refine hold_intro ?_
    refine U_ret ?_
    replace h := Option.some.inj h
    subst h
    refine ⟨.str s2, by simp only [ires, iress, Try.results92, SQ, List.toList_toArray, hb1, n1, n2, n3, n4, n5, n6], ?_⟩
    exact .cl (closed_str _)

theorem w_dyehouseref12_goal {fuel : Nat} {k_1 : Int} {nv_1 : Int} {r0_ : ByteArray} (h : p_dyehouseref12_goal fuel k_1 nv_1 = some r0_) : Pure1 Try.prog 135 [.int .u8 k_1, .int .i64 nv_1] (.str r0_) := by
  refine Pure1_S (all_cl (closed_int _ _) (all_cl (closed_int _ _) all_cl0)) fun F H s0 => ?_
  refine U_call 0 Try.func135 rfl (by kernel_rfl) (by simp [Try.ntmps135]) ?_
  rw [Try.ntmps135]
  refine U_fr 12 [(0, .int .u8 k_1), (1, .int .i64 nv_1)] rfl rfl rfl ?_
  unfold p_dyehouseref12_goal at h
  refine U_seq ?_
  refine U_reg ?_
  simp only [SQ, n1, n2, n3, n4, n5, n6]
  refine hold_intro ?_
  refine U_seq ?_
  obtain ⟨x1, kx1, h⟩ := bndO h
  obtain ⟨r1, kr1, h⟩ := bndO h
  refine U_reg ?_
  simp only [SQ, conv_int ty5 ty3 rfl, bin_rem' kx1, n1, n2, n3, n4, n5, n6]
  refine callP (w_dyehouseref12_label kr1) ?_
  simp only [SQ, n1, n2, n3, n4, n5, n6]
  refine hold_intro ?_
  refine U_ret ?_
  replace h := Option.some.inj h
  subst h
  refine ⟨.str r1, by simp only [ires, iress, Try.results135, SQ, List.toList_toArray, n1, n2, n3, n4, n5, n6], ?_⟩
  exact .cl (closed_str _)

theorem w_dyehouseref12_maker_give_2 {fuel : Nat} {m_1 : dyehouseref12_maker} {classv_1 : Int} {k_1 : Int} {r0_ : Opd} {m0_ : dyehouseref12_maker} (h : p_dyehouseref12_maker_give fuel m_1 classv_1 k_1 = some (r0_, m0_)) {v0_ : IV} : CallS Try.prog 134 [v0_, .int .i64 classv_1, .int .u8 k_1] [bx R125t4st2sie7sie v0_ m_1] (fun r L => (r = (.agg (eOpd r0_)) ∧ L = [bx R125t4st2sie7sie v0_ m0_])) := by
  intro F H s0
  refine U_call 0 Try.func134 rfl (by kernel_rfl) (by simp [Try.ntmps134]) ?_
  rw [Try.ntmps134]
  refine U_fr 42 [(0, v0_), (1, .int .i64 classv_1), (2, .int .u8 k_1)] rfl rfl rfl ?_
  unfold p_dyehouseref12_maker_give at h
  obtain ⟨d1, c1, rfl, s1⟩ := s0.opx 0 rfl
  obtain ⟨w1, w2, rfl, s2⟩ := R125t4st2sie7sie_o 1 s1 rfl
  refine U_seq ?_
  refine U_reg ?_
  simp only [SQ, ty58, n1, n2, n3, n4, n5, n6]
  refine N_box s2 rfl fun d2 H1 s3 => ?_
  simp only [SQ, n1, n2, n3, n4, n5, n6]
  refine hold_intro ?_
  refine U_seq ?_
  refine U_fr 42 [(0, .pb d1 0 0), (1, .int .i64 classv_1), (2, .int .u8 k_1), (6, .pb d2 0 0)] rfl rfl rfl ?_
  obtain ⟨c2, kc2, h⟩ := bndO h
  refine U_cut (fun a' H' => Fi a' 42 [(0, .pb d1 0 0), (2, .int .u8 k_1), (6, .pb d2 0 0), (7, .sim ((m_1.ids.at c2).map eInt) false)] ∧ H1 = H') ?_ ?_
  · refine U_reg ?_
    rcases c2 with _ | _
    ·
      try simp only [A2_at_t, A2_at_f] at *
      simp only [SQ, ty125, ty88, ty37, iia_arrV (P := Try.prog) (jn := 0) (m := 0) (ix2_f kc2 rfl) ty88 rfl ty37 (by decide) rfl, s3.b 3 rfl, n1, n2, n3, n4, n5, n6]
      refine hold_intro ?_
      exact ⟨⟨rfl, rfl, rfl⟩, rfl⟩
    ·
      try simp only [A2_at_t, A2_at_f] at *
      simp only [SQ, ty125, ty88, ty37, iia_arrV (P := Try.prog) (jn := 1) (m := 1) (ix2_t kc2 rfl) ty88 rfl ty37 (by decide) rfl, s3.b 3 rfl, n1, n2, n3, n4, n5, n6]
      refine hold_intro ?_
      exact ⟨⟨rfl, rfl, rfl⟩, rfl⟩
  · rintro a1 _ ⟨f1, rfl⟩
    refine U_fi f1 ?_
    refine U_seq ?_
    obtain ⟨x1, kx1, h⟩ := bndO h
    obtain ⟨x2, kx2, h⟩ := bndO h
    refine U_reg ?_
    simp only [SQ, conv_int ty5 ty3 rfl, len_sim ty37 rfl, bin_rem' kx1, ty37, ty3, iia_sim (f := eInt) ty37 rfl ty3 kx2 rfl, row_sim (f := eInt) kx2, n1, n2, n3, n4, n5, n6]
    refine hold_intro ?_
    refine U_seq ?_
    refine U_fr 42 [(0, .pb d1 0 0), (6, .pb d2 0 0), (8, .int .i64 x2)] rfl rfl rfl ?_
    obtain ⟨c3, kj1, h⟩ := bndO h
    refine U_cut (fun a' H' => ∃ v1 : IV, Fi a' 42 [(6, .pb d2 0 0), (8, .int .i64 x2)] ∧ HS F [pt d2 ⟨4, [[.int .i64 0, .int .i64 0, .int .i64 0, .int .i64 0]]⟩, pt d1 ⟨8, [[.bool m_1.f.machine, .str m_1.f.name, .sim (m_1.f.regs.map eRg) false, .sim (m_1.f.params.map eOpd) false, w1, .sim (m_1.ids.a0.map eInt) false, .sim (m_1.ids.a1.map eInt) false, v1]]⟩, sl R63t2sie w1 m_1.f.blocks, sl R3i v1 c3] H') ?_ ?_
    ·
      refine U_seq ?_
      obtain ⟨r1, kr1, kj1⟩ := bndO kj1
      refine U_reg ?_
      simp only [SQ, ty125, ty37, s3.b 3 rfl, n1, n2, n3, n4, n5, n6]
      refine callLd (w_dyehouseref12_In kr1) (.cons (s3.fzS 1 rfl) (.cons (.cl (closed_int _ _)) (.nil))) (flat_bool _) ?_
      simp only [SQ, n1, n2, n3, n4, n5, n6]
      refine hold_intro ?_
      rcases Bool.eq_false_or_eq_true ((!r1)) with hb1 | hb1
      ·
        rw [if_pos hb1] at kj1
        refine U_condT (by simp only [SQ, hb1, n1, n2, n3, n4, n5, n6]) ?_
        obtain ⟨l1, kl1, kj1⟩ := bndO kj1
        refine U_reg ?_
        simp only [SQ, ty125, ty37, s3.b 3 rfl, ty3, hb1, n1, n2, n3, n4, n5, n6]
        refine N_sl ([x2] : List Int) R3i s3 rfl rfl (by first | rfl | simp only [SQ]) (by first | rfl | simp only [List.length_map, List.length_replicate]) (zip_flat rfl) ?_
        intro v2 H4 s6
        simp only [SQ, ty37, ty3, hb1, n1, n2, n3, n4, n5, n6]
        refine N_app (xs := m_1.has) (ys := ([x2] : List Int)) 2 s6 rfl rfl ty37 rfl ty37 rfl ty3 rfl rfl rfl (by decide) rfl (s6.srowsi 0 rfl) kl1 (fun _ _ e => by cases e) ?_
        intro v3 H5 s7
        simp only [SQ, ty125, ty37, s7.cf 0 rfl, s7.b 4 rfl, hb1, n1, n2, n3, n4, n5, n6]
        refine N_put 4 s7 rfl fun H6 s8 => ?_
        simp only [SQ, hb1, n1, n2, n3, n4, n5, n6]
        refine hold_intro ?_
        replace kj1 := Option.some.inj kj1
        subst kj1
        exact ⟨_, ⟨rfl, rfl, by first | rfl | simp only [SQ, hb1, n1, n2, n3, n4, n5, n6]⟩, s8.sel [2, 4, 3, 0] (by decide)⟩
      ·
        rw [if_neg (by rw [hb1]; decide)] at kj1
        refine U_condF (by simp only [SQ, hb1, n1, n2, n3, n4, n5, n6]) ?_
        refine U_skip ?_
        replace kj1 := Option.some.inj kj1
        subst kj1
        exact ⟨_, ⟨rfl, rfl, by first | rfl | simp only [SQ, hb1, n1, n2, n3, n4, n5, n6]⟩, s3.sel [0, 3, 2, 1] (by decide)⟩
    ·
      rintro a2 H3 ⟨v1, f2, s5⟩
      refine U_fi f2 ?_
      refine U_seq ?_
      obtain ⟨r2, kr2, h⟩ := bndO h
      refine U_reg ?_
      simp only [SQ, n1, n2, n3, n4, n5, n6]
      refine callP (w_dyehouseref12_vreg kr2) ?_
      simp only [SQ, ty58, sOpd, splice_all', s5.b 0 rfl, n1, n2, n3, n4, n5, n6]
      refine N_put 0 s5 rfl fun H7 s9 => ?_
      simp only [SQ, n1, n2, n3, n4, n5, n6]
      refine hold_intro ?_
      refine U_ret ?_
      replace h := Option.some.inj h
      obtain ⟨q1, q2⟩ := Prod.mk.inj h
      clear h
      subst q1
      subst q2
      have s10 := s9.fold [1, 2, 3, 0] 3 (by decide) (fold_x (R := R125t4st2sie7sie) (x := (⟨m_1.f, m_1.ids, c3⟩ : dyehouseref12_maker)) rfl (R125t4st2sie7sie_f (x := (⟨m_1.f, m_1.ids, c3⟩ : dyehouseref12_maker))))
      exact ⟨.agg (eOpd r2), by simp only [ires, iress, Try.results134, SQ, List.toList_toArray, s9.b 0 rfl, sOpd, ty58, n1, n2, n3, n4, n5, n6], _, ⟨rfl, rfl⟩, s10.sel [0] (by decide)⟩

theorem w_dyehouseref12_maker_instr_4 {fuel : Nat} {m_1 : dyehouseref12_maker} {d_1 : DIns} {r0_ : Ins} {m0_ : dyehouseref12_maker} (h : p_dyehouseref12_maker_instr fuel m_1 d_1 = some (r0_, m0_)) {v0_ : IV} : CallS Try.prog 90 [v0_, .agg (eDIns d_1)] [bx R125t4st2sie7sie v0_ m_1] (fun r L => ∃ w0_0 : IV, ∃ w0_1 : IV, ∃ w0_2 : IV, (r = (.agg [.int .i64 r0_.op, .int .i64 r0_.dst.kind, .int .i64 r0_.dst.cls, .int .i64 r0_.dst.n, .int .i64 r0_.dst.tag, w0_0, .str r0_.name, .int .i64 r0_.off, w0_1, w0_2]) ∧ L = [bx R125t4st2sie7sie v0_ m0_, sl R58i w0_0 r0_.args, sl R9i w0_1 r0_.labels, sl R3i w0_2 r0_.cases])) := by
  intro F H s0
  refine U_call 0 Try.func90 rfl (by kernel_rfl) (by simp [Try.ntmps90]) ?_
  rw [Try.ntmps90]
  refine U_fr 170 [(0, v0_), (1, .agg (eDIns d_1))] rfl rfl rfl ?_
  unfold p_dyehouseref12_maker_instr at h
  obtain ⟨d1, c1, rfl, s1⟩ := s0.opx 0 rfl
  obtain ⟨w1, w2, rfl, s2⟩ := R125t4st2sie7sie_o 1 s1 rfl
  refine U_seq ?_
  refine U_reg ?_
  simp only [SQ, ty130, sDIns, n1, n2, n3, n4, n5, n6]
  refine N_box s2 rfl fun d2 H1 s3 => ?_
  simp only [SQ, ty66, n1, n2, n3, n4, n5, n6]
  refine N_box s3 rfl fun d3 H2 s4 => ?_
  simp only [SQ, n1, n2, n3, n4, n5, n6]
  refine hold_intro ?_
  refine U_seq ?_
  refine U_reg ?_
  simp only [SQ, ty130, ty5, s4.b 1 rfl, sDIns, conv_int ty5 ty3 rfl, n1, n2, n3, n4, n5, n6]
  refine hold_intro ?_
  refine U_seq ?_
  refine U_reg ?_
  simp only [SQ, ty66, fk66, n1, n2, n3, n4, n5, n6]
  refine N_box s4 rfl fun d4 H3 s5 => ?_
  simp only [SQ, ty66, s5.b 0 rfl, n1, n2, n3, n4, n5, n6]
  refine N_put 0 s5 rfl fun H4 s6 => ?_
  simp only [SQ, n1, n2, n3, n4, n5, n6]
  refine hold_intro ?_
  refine U_seq ?_
  refine U_fr 170 [(0, .pb d1 0 0), (3, .pb d2 0 0), (4, .pb d3 0 0), (5, .int .i64 (IntKind.wrap .i64 (1 + (Int.tmod (IntKind.wrap .i64 d_1.op) 19)))), (6, .pb d4 0 0)] rfl rfl rfl ?_
  obtain ⟨⟨c2, c3, c4, c5, c6, c7, c8, c9⟩, kj1, h⟩ := bndO h
  dsimp only at h
  refine U_cut (fun a' H' => ∃ v1 : IV, Fi a' 170 [(4, .pb d3 0 0), (6, .pb d4 0 0)] ∧ HS F [pt d3 ⟨10, [[.int .i64 0, .int .i64 0, .int .i64 0, .int .i64 0, .int .i64 0, .nils, .str (⟨#[]⟩ : ByteArray), .int .i64 0, .nils, .nils]]⟩, pt d4 ⟨10, [[.int .i64 (IntKind.wrap .i64 (1 + (Int.tmod (IntKind.wrap .i64 d_1.op) 19))), .int .i64 c2, .int .i64 c3, .int .i64 c4, .int .i64 c5, v1, .str c7, .int .i64 c8, .nils, .nils]]⟩, sl R58i v1 c6, bx R125t4st2sie7sie (.pb d1 0 0) c9] H') ?_ ?_
  ·
    refine U_seq ?_
    refine U_reg ?_
    simp only [SQ, n1, n2, n3, n4, n5, n6]
    refine hold_intro ?_
    refine U_block ?_
    refine U_seq ?_
    refine U_fr 170 [(0, .pb d1 0 0), (3, .pb d2 0 0), (4, .pb d3 0 0), (6, .pb d4 0 0), (15, .int .i64 (IntKind.wrap .i64 (1 + (Int.tmod (IntKind.wrap .i64 d_1.op) 19))))] rfl rfl rfl ?_
    refine U_reg ?_
    simp only [SQ, n1, n2, n3, n4, n5, n6]
    refine hold_intro ?_
    rcases Bool.eq_false_or_eq_true (decide ((IntKind.wrap .i64 (1 + (Int.tmod (IntKind.wrap .i64 d_1.op) 19))) = 16)) with hb1 | hb1
    ·
      rw [if_pos hb1] at kj1
      refine U_condT (by simp only [SQ, hb1, n1, n2, n3, n4, n5, n6]) ?_
      refine U_seq ?_
      obtain ⟨r1, kr1, kj1⟩ := bndO kj1
      refine U_reg ?_
      simp only [SQ, ty130, ty128, s6.b 2 rfl, sDIns, conv_int ty128 ty3 rfl, hb1, n1, n2, n3, n4, n5, n6]
      refine callP (w_dyehouseref12_imm kr1) ?_
      simp only [SQ, ty23, ty58, sOpd, hb1, n1, n2, n3, n4, n5, n6]
      refine N_sl ([r1] : List Opd) R58i s6 rfl rfl (by first | rfl | simp only [SQ]) (by first | rfl | simp only [List.length_map, List.length_replicate]) (zip_flat rfl) ?_
      intro v2 H6 s8
      simp only [SQ, ty66, ty23, s8.cf 0 rfl, s8.b 1 rfl, hb1, n1, n2, n3, n4, n5, n6]
      refine N_put 1 s8 rfl fun H7 s9 => ?_
      simp only [SQ, hb1, n1, n2, n3, n4, n5, n6]
      refine hold_intro ?_
      refine U_seq ?_
      refine U_fr 170 [(0, .pb d1 0 0), (3, .pb d2 0 0), (4, .pb d3 0 0), (6, .pb d4 0 0)] rfl rfl rfl ?_
      obtain ⟨c10, kj2, kj1⟩ := bndO kj1
      refine U_cut (fun a' H' => Fi a' 170 [(0, .pb d1 0 0), (3, .pb d2 0 0), (4, .pb d3 0 0), (6, .pb d4 0 0)] ∧ HS F [pt d1 ⟨8, [[.bool m_1.f.machine, .str m_1.f.name, .sim (m_1.f.regs.map eRg) false, .sim (m_1.f.params.map eOpd) false, w1, .sim (m_1.ids.a0.map eInt) false, .sim (m_1.ids.a1.map eInt) false, w2]]⟩, sl R63t2sie w1 m_1.f.blocks, sl R3i w2 m_1.has, pt d2 ⟨5, [eDIns d_1]⟩, pt d3 ⟨10, [[.int .i64 0, .int .i64 0, .int .i64 0, .int .i64 0, .int .i64 0, .nils, .str (⟨#[]⟩ : ByteArray), .int .i64 0, .nils, .nils]]⟩, pt d4 ⟨10, [[.int .i64 (IntKind.wrap .i64 (1 + (Int.tmod (IntKind.wrap .i64 d_1.op) 19))), .int .i64 0, .int .i64 0, .int .i64 0, .int .i64 0, v2, .str (⟨#[]⟩ : ByteArray), .int .i64 0, .nils, .nils]]⟩, sl R58i v2 c10] H') ?_ ?_
      ·
        refine U_seq ?_
        refine U_reg ?_
        simp only [SQ, ty130, ty5, s9.b 3 rfl, sDIns, hb1, n1, n2, n3, n4, n5, n6]
        refine hold_intro ?_
        rcases Bool.eq_false_or_eq_true (decide (0 < (Int.tmod d_1.b 3))) with hb2 | hb2
        ·
          rw [if_pos hb2] at kj2
          refine U_condT (by simp only [SQ, hb1, hb2, n1, n2, n3, n4, n5, n6]) ?_
          refine U_fr 170 [(0, .pb d1 0 0), (3, .pb d2 0 0), (4, .pb d3 0 0), (6, .pb d4 0 0)] rfl rfl rfl ?_
          refine U_fr 170 [(0, .pb d1 0 0), (3, .pb d2 0 0), (4, .pb d3 0 0), (6, .pb d4 0 0)] rfl rfl rfl ?_
          obtain ⟨r2, kr2, kj2⟩ := bndO kj2
          obtain ⟨x1, kx1, kj2⟩ := bndO kj2
          obtain ⟨l1, kl1, kj2⟩ := bndO kj2
          refine U_any (Γ := Unit) hm [0, 1, 0, 0, 8, 24, 56, 120, 0, 256, 1020, 2047, 4095] 11 () [sl R58i v2 ([r1] : List Opd), pt d4 ⟨10, [[.int .i64 (IntKind.wrap .i64 (1 + (Int.tmod (IntKind.wrap .i64 d_1.op) 19))), .int .i64 0, .int .i64 0, .int .i64 0, .int .i64 0, v2, .str (⟨#[]⟩ : ByteArray), .int .i64 0, .nils, .nils]]⟩, pt d3 ⟨10, [[.int .i64 0, .int .i64 0, .int .i64 0, .int .i64 0, .int .i64 0, .nils, .str (⟨#[]⟩ : ByteArray), .int .i64 0, .nils, .nils]]⟩, pt d2 ⟨5, [eDIns d_1]⟩, sl R3i w2 m_1.has, sl R63t2sie w1 m_1.f.blocks, pt d1 ⟨8, [[.bool m_1.f.machine, .str m_1.f.name, .sim (m_1.f.regs.map eRg) false, .sim (m_1.f.params.map eOpd) false, w1, .sim (m_1.ids.a0.map eInt) false, .sim (m_1.ids.a1.map eInt) false, w2]]⟩] (fun _ => [(54, .pb d4 0 5), (55, v2), (56, .pb d1 0 0), (57, .pb d2 0 3), (58, .int .u8 d_1.b), (59, .int .u8 (Int.tmod d_1.b 3)), (60, .int .i64 (IntKind.wrap .i64 (Int.tmod d_1.b 3))), (61, .int .i64 (IntKind.wrap .i64 ((IntKind.wrap .i64 (Int.tmod d_1.b 3)) - 1))), (62, .pb d2 0 2), (63, .int .u8 d_1.a), (64, .agg (eOpd r2)), (0, .pb d1 0 0), (3, .pb d2 0 0), (4, .pb d3 0 0), (6, .pb d4 0 0)]) (fun _ => []) [] [false, false, false, false, false, false, false, false, false, false, true] (by decide +kernel) (by decide) (by decide) (by decide) (fun _ => rfl) (fun _ => rfl) (s9) ?_ ?_ ?_
          ·
            rintro _ F1 H9 s11
            simp only [SQ, AllP_f, AllP_t, AllP_n, AllP_nil, put_got, and_true, and_self, eq_self, dvs_some, dvs_none, dvs_nil, List.take_succ_cons, List.take_zero, List.drop_succ_cons, List.drop_zero, ty66, ty23, s11.b 1 rfl, ty130, ty5, s11.b 3 rfl, sDIns, conv_int ty5 ty3 rfl, hb1, hb2, n1, n2, n3, n4, n5, n6]
          ·
            refine ⟨?_, trivial⟩
            ·
              rintro _ F2 H10 s12
              replace s12 : HS F2 [sl R58i v2 ([r1] : List Opd), pt d4 ⟨10, [[.int .i64 (IntKind.wrap .i64 (1 + (Int.tmod (IntKind.wrap .i64 d_1.op) 19))), .int .i64 0, .int .i64 0, .int .i64 0, .int .i64 0, v2, .str (⟨#[]⟩ : ByteArray), .int .i64 0, .nils, .nils]]⟩, pt d3 ⟨10, [[.int .i64 0, .int .i64 0, .int .i64 0, .int .i64 0, .int .i64 0, .nils, .str (⟨#[]⟩ : ByteArray), .int .i64 0, .nils, .nils]]⟩, pt d2 ⟨5, [eDIns d_1]⟩, sl R3i w2 m_1.has, sl R63t2sie w1 m_1.f.blocks, pt d1 ⟨8, [[.bool m_1.f.machine, .str m_1.f.name, .sim (m_1.f.regs.map eRg) false, .sim (m_1.f.params.map eOpd) false, w1, .sim (m_1.ids.a0.map eInt) false, .sim (m_1.ids.a1.map eInt) false, w2]]⟩] H10 := s12
              try dsimp only
              simp only [SQ, hb1, hb2, n1, n2, n3, n4, n5, n6]
              refine callLd (w_dyehouseref12_maker_use kr2) (.cons (Fz_box (s12.pt 6 rfl) (.cons (.cl (closed_bool _)) (.cons (.cl (closed_str _)) (.cons (.cl (cl_map cl_eRg m_1.f.regs)) (.cons (.cl (cl_map cl_eOpd m_1.f.params)) (.cons (s12.fzS 5 rfl) (.cons (.cl (cl_map cl_eInt m_1.ids.a0)) (.cons (.cl (cl_map cl_eInt m_1.ids.a1)) (.cons (s12.fzS 4 rfl) (.nil)))))))))) (.cons (.cl (closed_int _ _)) (.cons (.cl (closed_int _ _)) (.nil)))) (flat_agg (flA (flat_int _ _) (flA (flat_int _ _) (flA (flat_int _ _) (flA (flat_int _ _) fl0))))) ?_
              simp only [SQ, hb1, hb2, n1, n2, n3, n4, n5, n6]
              refine hold_intro ?_
              exact ⟨(), rfl, rfl, put_got _ _ _, s12⟩
          ·
            rintro _ H11 s13
            replace s13 : HS F [sl R58i v2 ([r1] : List Opd), pt d4 ⟨10, [[.int .i64 (IntKind.wrap .i64 (1 + (Int.tmod (IntKind.wrap .i64 d_1.op) 19))), .int .i64 0, .int .i64 0, .int .i64 0, .int .i64 0, v2, .str (⟨#[]⟩ : ByteArray), .int .i64 0, .nils, .nils]]⟩, pt d3 ⟨10, [[.int .i64 0, .int .i64 0, .int .i64 0, .int .i64 0, .int .i64 0, .nils, .str (⟨#[]⟩ : ByteArray), .int .i64 0, .nils, .nils]]⟩, pt d2 ⟨5, [eDIns d_1]⟩, sl R3i w2 m_1.has, sl R63t2sie w1 m_1.f.blocks, pt d1 ⟨8, [[.bool m_1.f.machine, .str m_1.f.name, .sim (m_1.f.regs.map eRg) false, .sim (m_1.f.params.map eOpd) false, w1, .sim (m_1.ids.a0.map eInt) false, .sim (m_1.ids.a1.map eInt) false, w2]]⟩] H11 := s13
            try dsimp only
            obtain ⟨w3_i, w3_r, w3_a, w3_1⟩ := s13.at (P := Try.prog) (k := .i64) 0 rfl ty23 rfl ty58 rfl kx1
            simp only [SQ, dvs_some, dvs_none, dvs_nil, List.take_succ_cons, List.take_zero, List.drop_succ_cons, List.drop_zero, ty23, ty58, w3_1, hb1, hb2, n1, n2, n3, n4, n5, n6]
            refine N_st (y := r2) 0 s13 rfl w3_a kx1 ty58 rfl (by first | rfl | simp only [SQ, sOpd, splice_all', hb1, hb2, n1, n2, n3, n4, n5, n6]) (by first | decide | simp only [SQ, sOpd, splice_all', hb1, hb2, n1, n2, n3, n4, n5, n6] <;> decide) (by simp only [SQ, sOpd, splice_all', hb1, hb2, n1, n2, n3, n4, n5, n6]) (by first | rfl | simp only [SQ, sOpd, splice_all', hb1, hb2, n1, n2, n3, n4, n5, n6] <;> rfl) kl1 fun H12 s14 => ?_
            simp only [SQ, hb1, hb2, n1, n2, n3, n4, n5, n6]
            refine hold_intro ?_
            replace kj2 := Option.some.inj kj2
            subst kj2
            exact ⟨⟨rfl, rfl, by first | rfl | simp only [SQ, hb1, hb2, n1, n2, n3, n4, n5, n6]⟩, s14.sel [6, 5, 4, 3, 2, 1, 0] (by decide)⟩
        ·
          rw [if_neg (by rw [hb2]; decide)] at kj2
          refine U_condF (by simp only [SQ, hb1, hb2, n1, n2, n3, n4, n5, n6]) ?_
          refine U_skip ?_
          replace kj2 := Option.some.inj kj2
          subst kj2
          exact ⟨⟨rfl, rfl, by first | rfl | simp only [SQ, hb1, hb2, n1, n2, n3, n4, n5, n6]⟩, s9.sel [6, 5, 4, 3, 2, 1, 0] (by decide)⟩
      ·
        rintro a2 H8 ⟨f2, s10⟩
        refine U_fi f2 ?_
        obtain ⟨⟨r3, m1⟩, kr3, kj1⟩ := bndO kj1
        dsimp only at kj1
        refine U_reg ?_
        have s15 := s10.fold [0, 1, 2, 3, 4, 5, 6] 3 (by decide) (fold_x (R := R125t4st2sie7sie) (x := m_1) rfl (R125t4st2sie7sie_f (x := m_1)))
        simp only [SQ, ty130, ty5, s10.b 3 rfl, sDIns, conv_int ty5 ty3 rfl, hb1, n1, n2, n3, n4, n5, n6]
        refine callS (w_dyehouseref12_maker_give_2 kr3) (s15.sel [0, 1, 2, 3, 4] (by decide)) rfl ?_
        rintro _ H13 _ ⟨rfl, rfl⟩ s16
        simp only [SQ, ty66, ty58, sOpd, xOpd, s16.b 3 rfl, hb1, n1, n2, n3, n4, n5, n6]
        refine N_put 3 s16 rfl fun H14 s17 => ?_
        simp only [SQ, hb1, n1, n2, n3, n4, n5, n6]
        refine hold_intro ?_
        replace kj1 := Option.some.inj kj1
        obtain ⟨q1, q2⟩ := Prod.mk.inj kj1
        clear kj1
        obtain ⟨q3, q4⟩ := Prod.mk.inj q2
        clear q2
        obtain ⟨q5, q6⟩ := Prod.mk.inj q4
        clear q4
        obtain ⟨q7, q8⟩ := Prod.mk.inj q6
        clear q6
        obtain ⟨q9, q10⟩ := Prod.mk.inj q8
        clear q8
        obtain ⟨q11, q12⟩ := Prod.mk.inj q10
        clear q10
        obtain ⟨q13, q14⟩ := Prod.mk.inj q12
        clear q12
        subst q1
        subst q3
        subst q5
        subst q7
        subst q9
        subst q11
        subst q13
        subst q14
        exact ⟨_, ⟨rfl, rfl, by first | rfl | simp only [SQ, hb1, n1, n2, n3, n4, n5, n6]⟩, s17.sel [2, 3, 4, 0] (by decide)⟩
    ·
      rw [if_neg (by rw [hb1]; decide)] at kj1
      refine U_condF (by simp only [SQ, hb1, n1, n2, n3, n4, n5, n6]) ?_
      refine U_seq ?_
      refine U_reg ?_
      simp only [SQ, hb1, n1, n2, n3, n4, n5, n6]
      refine hold_intro ?_
      rcases Bool.eq_false_or_eq_true (decide ((IntKind.wrap .i64 (1 + (Int.tmod (IntKind.wrap .i64 d_1.op) 19))) = 17)) with hb3 | hb3
      ·
        rw [if_pos hb3] at kj1
        refine U_condT (by simp only [SQ, hb1, hb3, n1, n2, n3, n4, n5, n6]) ?_
        refine U_seq ?_
        refine U_fr 170 [(0, .pb d1 0 0), (3, .pb d2 0 0), (4, .pb d3 0 0), (6, .pb d4 0 0)] rfl rfl rfl ?_
        obtain ⟨r4, kr4, kj1⟩ := bndO kj1
        refine U_reg ?_
        simp only [SQ, ty130, ty5, s6.b 2 rfl, sDIns, hb1, hb3, n1, n2, n3, n4, n5, n6]
        refine callLd (w_dyehouseref12_maker_use kr4) (.cons (Fz_box (s6.pt 5 rfl) (.cons (.cl (closed_bool _)) (.cons (.cl (closed_str _)) (.cons (.cl (cl_map cl_eRg m_1.f.regs)) (.cons (.cl (cl_map cl_eOpd m_1.f.params)) (.cons (s6.fzS 4 rfl) (.cons (.cl (cl_map cl_eInt m_1.ids.a0)) (.cons (.cl (cl_map cl_eInt m_1.ids.a1)) (.cons (s6.fzS 3 rfl) (.nil)))))))))) (.cons (.cl (closed_int _ _)) (.cons (.cl (closed_int _ _)) (.nil)))) (flat_agg (flA (flat_int _ _) (flA (flat_int _ _) (flA (flat_int _ _) (flA (flat_int _ _) fl0))))) ?_
        simp only [SQ, ty23, ty58, sOpd, hb1, hb3, n1, n2, n3, n4, n5, n6]
        refine N_sl ([r4] : List Opd) R58i s6 rfl rfl (by first | rfl | simp only [SQ]) (by first | rfl | simp only [List.length_map, List.length_replicate]) (zip_flat rfl) ?_
        intro v3 H15 s18
        simp only [SQ, ty66, ty23, s18.cf 0 rfl, s18.b 1 rfl, hb1, hb3, n1, n2, n3, n4, n5, n6]
        refine N_put 1 s18 rfl fun H16 s19 => ?_
        simp only [SQ, hb1, hb3, n1, n2, n3, n4, n5, n6]
        refine hold_intro ?_
        refine U_seq ?_
        refine U_reg ?_
        simp only [SQ, ty130, ty128, s19.b 3 rfl, sDIns, conv_int ty128 ty3 rfl, ty66, ty3, s19.b 1 rfl, hb1, hb3, n1, n2, n3, n4, n5, n6]
        refine N_put 1 s19 rfl fun H17 s20 => ?_
        simp only [SQ, hb1, hb3, n1, n2, n3, n4, n5, n6]
        refine hold_intro ?_
        refine U_fr 170 [(0, .pb d1 0 0), (3, .pb d2 0 0), (4, .pb d3 0 0), (6, .pb d4 0 0)] rfl rfl rfl ?_
        obtain ⟨⟨r5, m2⟩, kr5, kj1⟩ := bndO kj1
        dsimp only at kj1
        refine U_reg ?_
        have s21 := s20.fold [6, 5, 4, 0, 1, 2, 3] 3 (by decide) (fold_x (R := R125t4st2sie7sie) (x := m_1) rfl (R125t4st2sie7sie_f (x := m_1)))
        simp only [SQ, ty130, ty5, s20.b 3 rfl, sDIns, hb1, hb3, n1, n2, n3, n4, n5, n6]
        refine callS (w_dyehouseref12_maker_give_2 kr5) (s21.sel [0, 1, 2, 3, 4] (by decide)) rfl ?_
        rintro _ H18 _ ⟨rfl, rfl⟩ s22
        simp only [SQ, ty66, ty58, sOpd, xOpd, s22.b 2 rfl, hb1, hb3, n1, n2, n3, n4, n5, n6]
        refine N_put 2 s22 rfl fun H19 s23 => ?_
        simp only [SQ, hb1, hb3, n1, n2, n3, n4, n5, n6]
        refine hold_intro ?_
        replace kj1 := Option.some.inj kj1
        obtain ⟨q15, q16⟩ := Prod.mk.inj kj1
        clear kj1
        obtain ⟨q17, q18⟩ := Prod.mk.inj q16
        clear q16
        obtain ⟨q19, q20⟩ := Prod.mk.inj q18
        clear q18
        obtain ⟨q21, q22⟩ := Prod.mk.inj q20
        clear q20
        obtain ⟨q23, q24⟩ := Prod.mk.inj q22
        clear q22
        obtain ⟨q25, q26⟩ := Prod.mk.inj q24
        clear q24
        obtain ⟨q27, q28⟩ := Prod.mk.inj q26
        clear q26
        subst q15
        subst q17
        subst q19
        subst q21
        subst q23
        subst q25
        subst q27
        subst q28
        exact ⟨_, ⟨rfl, rfl, by first | rfl | simp only [SQ, hb1, hb3, n1, n2, n3, n4, n5, n6]⟩, s23.sel [3, 2, 1, 0] (by decide)⟩
      ·
        rw [if_neg (by rw [hb3]; decide)] at kj1
        refine U_condF (by simp only [SQ, hb1, hb3, n1, n2, n3, n4, n5, n6]) ?_
        refine U_seq ?_
        refine U_reg ?_
        simp only [SQ, hb1, hb3, n1, n2, n3, n4, n5, n6]
        refine hold_intro ?_
        rcases Bool.eq_false_or_eq_true (decide ((IntKind.wrap .i64 (1 + (Int.tmod (IntKind.wrap .i64 d_1.op) 19))) = 18)) with hb4 | hb4
        ·
          rw [if_pos hb4] at kj1
          refine U_condT (by simp only [SQ, hb1, hb3, hb4, n1, n2, n3, n4, n5, n6]) ?_
          refine U_seq ?_
          refine U_fr 170 [(0, .pb d1 0 0), (3, .pb d2 0 0), (4, .pb d3 0 0), (6, .pb d4 0 0)] rfl rfl rfl ?_
          obtain ⟨r6, kr6, kj1⟩ := bndO kj1
          obtain ⟨r7, kr7, kj1⟩ := bndO kj1
          refine U_any (Γ := Unit) hm [0, 0, 2, 7, 0, 0, 32, 127, 255, 511, 1023] 7 () [pt d4 ⟨10, [[.int .i64 (IntKind.wrap .i64 (1 + (Int.tmod (IntKind.wrap .i64 d_1.op) 19))), .int .i64 0, .int .i64 0, .int .i64 0, .int .i64 0, .nils, .str (⟨#[]⟩ : ByteArray), .int .i64 0, .nils, .nils]]⟩, pt d3 ⟨10, [[.int .i64 0, .int .i64 0, .int .i64 0, .int .i64 0, .int .i64 0, .nils, .str (⟨#[]⟩ : ByteArray), .int .i64 0, .nils, .nils]]⟩, pt d2 ⟨5, [eDIns d_1]⟩, sl R3i w2 m_1.has, sl R63t2sie w1 m_1.f.blocks, pt d1 ⟨8, [[.bool m_1.f.machine, .str m_1.f.name, .sim (m_1.f.regs.map eRg) false, .sim (m_1.f.params.map eOpd) false, w1, .sim (m_1.ids.a0.map eInt) false, .sim (m_1.ids.a1.map eInt) false, w2]]⟩] (fun _ => [(96, .pb d1 0 0), (97, .pb d2 0 3), (98, .int .u8 d_1.b), (99, .agg (eOpd r6)), (100, .pb d1 0 0), (101, .pb d2 0 2), (102, .int .u8 d_1.a), (0, .pb d1 0 0), (3, .pb d2 0 0), (4, .pb d3 0 0), (6, .pb d4 0 0)]) (fun _ => []) [] [false, false, false, true, false, false, false] (by decide +kernel) (by decide) (by decide) (by decide) (fun _ => rfl) (fun _ => rfl) (s6) ?_ ?_ ?_
          ·
            rintro _ F3 H20 s24
            simp only [SQ, AllP_f, AllP_t, AllP_n, AllP_nil, put_got, and_true, and_self, eq_self, dvs_some, dvs_none, dvs_nil, List.take_succ_cons, List.take_zero, List.drop_succ_cons, List.drop_zero, ty130, ty5, s24.b 2 rfl, sDIns, hb1, hb3, hb4, n1, n2, n3, n4, n5, n6]
          ·
            refine ⟨?_, trivial⟩
            ·
              rintro _ F4 H21 s25
              replace s25 : HS F4 [pt d4 ⟨10, [[.int .i64 (IntKind.wrap .i64 (1 + (Int.tmod (IntKind.wrap .i64 d_1.op) 19))), .int .i64 0, .int .i64 0, .int .i64 0, .int .i64 0, .nils, .str (⟨#[]⟩ : ByteArray), .int .i64 0, .nils, .nils]]⟩, pt d3 ⟨10, [[.int .i64 0, .int .i64 0, .int .i64 0, .int .i64 0, .int .i64 0, .nils, .str (⟨#[]⟩ : ByteArray), .int .i64 0, .nils, .nils]]⟩, pt d2 ⟨5, [eDIns d_1]⟩, sl R3i w2 m_1.has, sl R63t2sie w1 m_1.f.blocks, pt d1 ⟨8, [[.bool m_1.f.machine, .str m_1.f.name, .sim (m_1.f.regs.map eRg) false, .sim (m_1.f.params.map eOpd) false, w1, .sim (m_1.ids.a0.map eInt) false, .sim (m_1.ids.a1.map eInt) false, w2]]⟩] H21 := s25
              try dsimp only
              simp only [SQ, hb1, hb3, hb4, n1, n2, n3, n4, n5, n6]
              refine callLd (w_dyehouseref12_maker_use kr6) (.cons (Fz_box (s25.pt 5 rfl) (.cons (.cl (closed_bool _)) (.cons (.cl (closed_str _)) (.cons (.cl (cl_map cl_eRg m_1.f.regs)) (.cons (.cl (cl_map cl_eOpd m_1.f.params)) (.cons (s25.fzS 4 rfl) (.cons (.cl (cl_map cl_eInt m_1.ids.a0)) (.cons (.cl (cl_map cl_eInt m_1.ids.a1)) (.cons (s25.fzS 3 rfl) (.nil)))))))))) (.cons (.cl (closed_int _ _)) (.cons (.cl (closed_int _ _)) (.nil)))) (flat_agg (flA (flat_int _ _) (flA (flat_int _ _) (flA (flat_int _ _) (flA (flat_int _ _) fl0))))) ?_
              simp only [SQ, hb1, hb3, hb4, n1, n2, n3, n4, n5, n6]
              refine hold_intro ?_
              exact ⟨(), rfl, rfl, put_got _ _ _, s25⟩
          ·
            rintro _ H22 s26
            replace s26 : HS F [pt d4 ⟨10, [[.int .i64 (IntKind.wrap .i64 (1 + (Int.tmod (IntKind.wrap .i64 d_1.op) 19))), .int .i64 0, .int .i64 0, .int .i64 0, .int .i64 0, .nils, .str (⟨#[]⟩ : ByteArray), .int .i64 0, .nils, .nils]]⟩, pt d3 ⟨10, [[.int .i64 0, .int .i64 0, .int .i64 0, .int .i64 0, .int .i64 0, .nils, .str (⟨#[]⟩ : ByteArray), .int .i64 0, .nils, .nils]]⟩, pt d2 ⟨5, [eDIns d_1]⟩, sl R3i w2 m_1.has, sl R63t2sie w1 m_1.f.blocks, pt d1 ⟨8, [[.bool m_1.f.machine, .str m_1.f.name, .sim (m_1.f.regs.map eRg) false, .sim (m_1.f.params.map eOpd) false, w1, .sim (m_1.ids.a0.map eInt) false, .sim (m_1.ids.a1.map eInt) false, w2]]⟩] H22 := s26
            try dsimp only
            simp only [SQ, dvs_some, dvs_none, dvs_nil, List.take_succ_cons, List.take_zero, List.drop_succ_cons, List.drop_zero, hb1, hb3, hb4, n1, n2, n3, n4, n5, n6]
            refine callLd (w_dyehouseref12_maker_use kr7) (.cons (Fz_box (s26.pt 5 rfl) (.cons (.cl (closed_bool _)) (.cons (.cl (closed_str _)) (.cons (.cl (cl_map cl_eRg m_1.f.regs)) (.cons (.cl (cl_map cl_eOpd m_1.f.params)) (.cons (s26.fzS 4 rfl) (.cons (.cl (cl_map cl_eInt m_1.ids.a0)) (.cons (.cl (cl_map cl_eInt m_1.ids.a1)) (.cons (s26.fzS 3 rfl) (.nil)))))))))) (.cons (.cl (closed_int _ _)) (.cons (.cl (closed_int _ _)) (.nil)))) (flat_agg (flA (flat_int _ _) (flA (flat_int _ _) (flA (flat_int _ _) (flA (flat_int _ _) fl0))))) ?_
            simp only [SQ, ty23, ty58, sOpd, hb1, hb3, hb4, n1, n2, n3, n4, n5, n6]
            refine N_sl ([r6, r7] : List Opd) R58i s26 rfl rfl (by first | rfl | simp only [SQ]) (by first | rfl | simp only [List.length_map, List.length_replicate]) (zip_flat rfl) ?_
            intro v4 H23 s27
            simp only [SQ, ty66, ty23, s27.cf 0 rfl, s27.b 1 rfl, hb1, hb3, hb4, n1, n2, n3, n4, n5, n6]
            refine N_put 1 s27 rfl fun H24 s28 => ?_
            simp only [SQ, hb1, hb3, hb4, n1, n2, n3, n4, n5, n6]
            refine hold_intro ?_
            refine U_reg ?_
            simp only [SQ, ty130, ty128, s28.b 3 rfl, sDIns, conv_int ty128 ty3 rfl, ty66, ty3, s28.b 1 rfl, hb1, hb3, hb4, n1, n2, n3, n4, n5, n6]
            refine N_put 1 s28 rfl fun H25 s29 => ?_
            simp only [SQ, hb1, hb3, hb4, n1, n2, n3, n4, n5, n6]
            refine hold_intro ?_
            have s30 := s29.fold [6, 5, 4, 0, 1, 2, 3] 3 (by decide) (fold_x (R := R125t4st2sie7sie) (x := m_1) rfl (R125t4st2sie7sie_f (x := m_1)))
            replace kj1 := Option.some.inj kj1
            obtain ⟨q29, q30⟩ := Prod.mk.inj kj1
            clear kj1
            obtain ⟨q31, q32⟩ := Prod.mk.inj q30
            clear q30
            obtain ⟨q33, q34⟩ := Prod.mk.inj q32
            clear q32
            obtain ⟨q35, q36⟩ := Prod.mk.inj q34
            clear q34
            obtain ⟨q37, q38⟩ := Prod.mk.inj q36
            clear q36
            obtain ⟨q39, q40⟩ := Prod.mk.inj q38
            clear q38
            obtain ⟨q41, q42⟩ := Prod.mk.inj q40
            clear q40
            subst q29
            subst q31
            subst q33
            subst q35
            subst q37
            subst q39
            subst q41
            subst q42
            exact ⟨_, ⟨rfl, rfl, by first | rfl | simp only [SQ, hb1, hb3, hb4, n1, n2, n3, n4, n5, n6]⟩, s30.sel [3, 2, 1, 0] (by decide)⟩
        ·
          rw [if_neg (by rw [hb4]; decide)] at kj1
          refine U_condF (by simp only [SQ, hb1, hb3, hb4, n1, n2, n3, n4, n5, n6]) ?_
          refine U_seq ?_
          refine U_reg ?_
          simp only [SQ, hb1, hb3, hb4, n1, n2, n3, n4, n5, n6]
          refine hold_intro ?_
          rcases Bool.eq_false_or_eq_true (decide ((IntKind.wrap .i64 (1 + (Int.tmod (IntKind.wrap .i64 d_1.op) 19))) = 19)) with hb5 | hb5
          ·
            rw [if_pos hb5] at kj1
            refine U_condT (by simp only [SQ, hb1, hb3, hb4, hb5, n1, n2, n3, n4, n5, n6]) ?_
            refine U_seq ?_
            obtain ⟨x2, kx2, kj1⟩ := bndO kj1
            refine U_reg ?_
            simp only [SQ, ty64, ty9, hb1, hb3, hb4, hb5, n1, n2, n3, n4, n5, n6]
            refine N_sl ([(⟨#[102]⟩ : ByteArray), (⟨#[103]⟩ : ByteArray), (⟨#[112, 117, 116, 10]⟩ : ByteArray)] : List ByteArray) R9i s6 rfl rfl (by first | rfl | simp only [SQ]) (by first | rfl | simp only [List.length_map, List.length_replicate]) (zip_flat rfl) ?_
            intro v5 H26 s31
            obtain ⟨w4_i, w4_r, w4_a, w4_1⟩ := s31.at (P := Try.prog) (k := .i64) 0 rfl ty64 rfl ty9 rfl kx2
            simp only [SQ, ty130, ty5, s31.b 3 rfl, sDIns, conv_int ty5 ty3 rfl, ty64, ty9, w4_1, s31.row 0 rfl w4_a kx2, ty66, s31.b 1 rfl, hb1, hb3, hb4, hb5, n1, n2, n3, n4, n5, n6]
            refine N_put 1 s31 rfl fun H27 s32 => ?_
            simp only [SQ, hb1, hb3, hb4, hb5, n1, n2, n3, n4, n5, n6]
            refine hold_intro ?_
            refine U_seq ?_
            refine U_seq ?_
            refine U_fr 170 [(0, .pb d1 0 0), (3, .pb d2 0 0), (4, .pb d3 0 0), (6, .pb d4 0 0)] rfl rfl rfl ?_
            refine U_reg ?_
            simp only [SQ, hb1, hb3, hb4, hb5, n1, n2, n3, n4, n5, n6]
            refine hold_intro ?_
            refine U_fr 170 [(0, .pb d1 0 0), (3, .pb d2 0 0), (4, .pb d3 0 0), (6, .pb d4 0 0), (7, .int .i64 0)] rfl rfl rfl ?_
            obtain ⟨c12, he1, kj1⟩ := bndO kj1
            obtain ⟨hhi1, hlo1, he1⟩ := toN_facts he1
            have s34 := s32.nil' R58i
            refine U_cut (fun a' H' => ∃ v6 : IV, Fi a' 170 [(0, .pb d1 0 0), (3, .pb d2 0 0), (4, .pb d3 0 0), (6, .pb d4 0 0)] ∧ HS F [pt d1 ⟨8, [[.bool m_1.f.machine, .str m_1.f.name, .sim (m_1.f.regs.map eRg) false, .sim (m_1.f.params.map eOpd) false, w1, .sim (m_1.ids.a0.map eInt) false, .sim (m_1.ids.a1.map eInt) false, w2]]⟩, sl R63t2sie w1 m_1.f.blocks, sl R3i w2 m_1.has, pt d2 ⟨5, [eDIns d_1]⟩, pt d3 ⟨10, [[.int .i64 0, .int .i64 0, .int .i64 0, .int .i64 0, .int .i64 0, .nils, .str (⟨#[]⟩ : ByteArray), .int .i64 0, .nils, .nils]]⟩, pt d4 ⟨10, [[.int .i64 (IntKind.wrap .i64 (1 + (Int.tmod (IntKind.wrap .i64 d_1.op) 19))), .int .i64 0, .int .i64 0, .int .i64 0, .int .i64 0, v6, .str x2, .int .i64 0, .nils, .nils]]⟩, sl R58i v6 c12] H') (U_block (U_loop (fun z_ a' H' => match z_ with | (i1, c11) => forN (Int.tmod (IntKind.wrap .i64 d_1.b) 4 - i1).toNat i1 (fun i s => p_dyehouseref12_maker_instr_b1 fuel m_1 d_1 i s) c11 = some c12 ∧ 0 ≤ i1 ∧ ∃ v6 : IV, Fi a' 170 [(0, .pb d1 0 0), (3, .pb d2 0 0), (4, .pb d3 0 0), (6, .pb d4 0 0), (7, .int .i64 i1)] ∧ HS F [pt d1 ⟨8, [[.bool m_1.f.machine, .str m_1.f.name, .sim (m_1.f.regs.map eRg) false, .sim (m_1.f.params.map eOpd) false, w1, .sim (m_1.ids.a0.map eInt) false, .sim (m_1.ids.a1.map eInt) false, w2]]⟩, sl R63t2sie w1 m_1.f.blocks, sl R3i w2 m_1.has, pt d2 ⟨5, [eDIns d_1]⟩, pt d3 ⟨10, [[.int .i64 0, .int .i64 0, .int .i64 0, .int .i64 0, .int .i64 0, .nils, .str (⟨#[]⟩ : ByteArray), .int .i64 0, .nils, .nils]]⟩, pt d4 ⟨10, [[.int .i64 (IntKind.wrap .i64 (1 + (Int.tmod (IntKind.wrap .i64 d_1.op) 19))), .int .i64 0, .int .i64 0, .int .i64 0, .int .i64 0, v6, .str x2, .int .i64 0, .nils, .nils]]⟩, sl R58i v6 c11] H' : (Int × (List Opd)) → Fr → Heap → Prop) (fun z_ : Int × (List Opd) => (Int.tmod (IntKind.wrap .i64 d_1.b) 4 - z_.1).toNat) (0, ([] : List Opd)) ?_ ?_)) ?_
            · exact ⟨he1, Int.le_refl _, _, ⟨rfl, rfl, by first | rfl | simp only [SQ, hb1, hb3, hb4, hb5, n1, n2, n3, n4, n5, n6]⟩, s34.sel [7, 6, 5, 4, 3, 2, 0] (by decide)⟩
            ·
              rintro ⟨i1, c11⟩ a3 H28 ⟨hf1, hl1, v6, f3, s35⟩
              refine U_fi f3 ?_
              by_cases hlt1 : i1 < Int.tmod (IntKind.wrap .i64 d_1.b) 4
              ·
                obtain ⟨u2, hr1, hl2⟩ := forN_step hf1 hlt1
                replace hr1 : p_dyehouseref12_maker_instr_b1 fuel m_1 d_1 i1 c11 = some u2 := hr1
                unfold p_dyehouseref12_maker_instr_b1 at hr1
                have hw1 := wrap_next hlt1 hhi1 hlo1 hl1
                have hlt1_t : decide (i1 < (Int.tmod (IntKind.wrap .i64 d_1.b) 4)) = true := decide_eq_true hlt1
                refine U_seq (U_seq ?_)
                refine U_reg ?_
                simp only [SQ, ty130, ty5, s35.b 3 rfl, sDIns, conv_int ty5 ty3 rfl, hb1, hb3, hb4, hb5, hw1, hlt1_t, n1, n2, n3, n4, n5, n6]
                refine hold_intro ?_
                refine U_condT (by simp only [SQ, hb1, hb3, hb4, hb5, hw1, hlt1_t, n1, n2, n3, n4, n5, n6]) (U_skip ?_)
                refine U_seq ?_
                refine U_block ?_
                refine U_seq ?_
                refine U_reg ?_
                simp only [SQ, ty130, ty128, s35.b 3 rfl, sDIns, conv_int ty128 ty3 rfl, hb1, hb3, hb4, hb5, hw1, hlt1_t, n1, n2, n3, n4, n5, n6]
                refine hold_intro ?_
                rcases Bool.eq_false_or_eq_true (decide ((Int.tmod (IntKind.wrap .i64 ((IntKind.wrap .i64 d_1.n) + i1)) 3) = 0)) with hb6 | hb6
                ·
                  rw [if_pos hb6] at hr1
                  refine U_condT (by simp only [SQ, hb1, hb3, hb4, hb5, hw1, hlt1_t, hb6, n1, n2, n3, n4, n5, n6]) ?_
                  obtain ⟨r8, kr8, hr1⟩ := bndO hr1
                  obtain ⟨l2, kl2, hr1⟩ := bndO hr1
                  refine U_drawQ hm [0, 1, 0, 4, 12, 28, 60, 127, 255, 511] false 7 (by decide +kernel) (by decide) ?_
                  simp only [SQ, ty66, ty23, s35.b 5 rfl, ty130, ty128, s35.b 3 rfl, sDIns, conv_int ty128 ty3 rfl, hb1, hb3, hb4, hb5, hw1, hlt1_t, hb6, n1, n2, n3, n4, n5, n6]
                  refine callP (w_dyehouseref12_imm kr8) ?_
                  simp only [SQ, ty23, ty58, sOpd, hb1, hb3, hb4, hb5, hw1, hlt1_t, hb6, n1, n2, n3, n4, n5, n6]
                  refine N_sl ([r8] : List Opd) R58i s35 rfl rfl (by first | rfl | simp only [SQ]) (by first | rfl | simp only [List.length_map, List.length_replicate]) (zip_flat rfl) ?_
                  intro v8 H29 s36
                  simp only [SQ, ty23, ty58, hb1, hb3, hb4, hb5, hw1, hlt1_t, hb6, n1, n2, n3, n4, n5, n6]
                  refine N_app (xs := c11) (ys := ([r8] : List Opd)) 7 s36 rfl rfl ty23 rfl ty23 rfl ty58 rfl rfl rfl (by decide) rfl (s36.srowsi 0 rfl) kl2 (fun _ _ e => by cases e) ?_
                  intro v9 H30 s37
                  simp only [SQ, ty66, ty23, s37.cf 0 rfl, s37.b 7 rfl, hb1, hb3, hb4, hb5, hw1, hlt1_t, hb6, n1, n2, n3, n4, n5, n6]
                  refine N_put 7 s37 rfl fun H31 s38 => ?_
                  simp only [SQ, hb1, hb3, hb4, hb5, hw1, hlt1_t, hb6, n1, n2, n3, n4, n5, n6]
                  refine hold_intro ?_
                  refine U_reg ?_
                  simp only [SQ, hb1, hb3, hb4, hb5, hw1, hlt1_t, hb6, n1, n2, n3, n4, n5, n6]
                  refine hold_intro ?_
                  replace hr1 := Option.some.inj hr1
                  subst hr1
                  refine ⟨(i1 + 1, l2), ?_, hl2, Int.le_add_one hl1, _, ⟨rfl, rfl, by first | rfl | simp only [SQ, hb1, hb3, hb4, hb5, hw1, hlt1_t, hb6, n1, n2, n3, n4, n5, n6]⟩, s38.sel [2, 3, 4, 5, 6, 7, 0] (by decide)⟩
                  show (Int.tmod (IntKind.wrap .i64 d_1.b) 4 - (i1 + 1)).toNat < (Int.tmod (IntKind.wrap .i64 d_1.b) 4 - i1).toNat; omega
                ·
                  rw [if_neg (by rw [hb6]; decide)] at hr1
                  refine U_condF (by simp only [SQ, hb1, hb3, hb4, hb5, hw1, hlt1_t, hb6, n1, n2, n3, n4, n5, n6]) ?_
                  refine U_fr 170 [(0, .pb d1 0 0), (3, .pb d2 0 0), (4, .pb d3 0 0), (6, .pb d4 0 0), (7, .int .i64 i1)] rfl rfl rfl ?_
                  refine U_fr 170 [(0, .pb d1 0 0), (3, .pb d2 0 0), (4, .pb d3 0 0), (6, .pb d4 0 0), (7, .int .i64 i1)] rfl rfl rfl ?_
                  obtain ⟨r9, kr9, hr1⟩ := bndO hr1
                  obtain ⟨l3, kl3, hr1⟩ := bndO hr1
                  refine U_any (Γ := IV) hm [0, 1, 0, 0, 8, 0, 32, 0, 128, 480, 1016, 2044, 4092, 8191, 16383, 32767] 13 IV.junk [pt d1 ⟨8, [[.bool m_1.f.machine, .str m_1.f.name, .sim (m_1.f.regs.map eRg) false, .sim (m_1.f.params.map eOpd) false, w1, .sim (m_1.ids.a0.map eInt) false, .sim (m_1.ids.a1.map eInt) false, w2]]⟩, sl R63t2sie w1 m_1.f.blocks, sl R3i w2 m_1.has, pt d2 ⟨5, [eDIns d_1]⟩, pt d3 ⟨10, [[.int .i64 0, .int .i64 0, .int .i64 0, .int .i64 0, .int .i64 0, .nils, .str (⟨#[]⟩ : ByteArray), .int .i64 0, .nils, .nils]]⟩, pt d4 ⟨10, [[.int .i64 (IntKind.wrap .i64 (1 + (Int.tmod (IntKind.wrap .i64 d_1.op) 19))), .int .i64 0, .int .i64 0, .int .i64 0, .int .i64 0, v6, .str x2, .int .i64 0, .nils, .nils]]⟩, sl R58i v6 c11] (fun v10 => [(145, .pb d4 0 5), (146, v6), (147, .pb d1 0 0), (148, .pb d2 0 2), (149, .int .u8 d_1.a), (150, .int .i64 i1), (151, .int .u8 (IntKind.wrap .u8 i1)), (152, .pb d2 0 3), (153, .int .u8 d_1.b), (154, .int .u8 (IntKind.wrap .u8 ((IntKind.wrap .u8 i1) * d_1.b))), (155, .int .u8 (IntKind.wrap .u8 (d_1.a + (IntKind.wrap .u8 ((IntKind.wrap .u8 i1) * d_1.b))))), (156, .agg (eOpd r9)), (157, v10), (0, .pb d1 0 0), (3, .pb d2 0 0), (4, .pb d3 0 0), (6, .pb d4 0 0), (7, .int .i64 i1)]) (fun v10 => [sl R58i v10 ([r9] : List Opd)]) [⟨some 12, none, []⟩] [false, false, false, false, false, false, false, false, false, false, false, true, true] (by decide +kernel) (by decide) (by decide) (by decide) (fun _ => rfl) (fun _ => rfl) (s35) ?_ ?_ ?_
                  ·
                    rintro v10 F5 H32 s39
                    simp only [SQ, AllP_f, AllP_t, AllP_n, AllP_nil, put_got, and_true, and_self, eq_self, dvs_some, dvs_none, dvs_nil, List.take_succ_cons, List.take_zero, List.drop_succ_cons, List.drop_zero, ty66, ty23, s39.b 5 rfl, ty130, ty5, s39.b 3 rfl, sDIns, conv_int ty3 ty5 rfl, hb1, hb3, hb4, hb5, hw1, hlt1_t, hb6, n1, n2, n3, n4, n5, n6]
                  ·
                    refine ⟨?_, ?_, trivial⟩
                    ·
                      rintro v10 F6 H33 s40
                      replace s40 : HS F6 [pt d1 ⟨8, [[.bool m_1.f.machine, .str m_1.f.name, .sim (m_1.f.regs.map eRg) false, .sim (m_1.f.params.map eOpd) false, w1, .sim (m_1.ids.a0.map eInt) false, .sim (m_1.ids.a1.map eInt) false, w2]]⟩, sl R63t2sie w1 m_1.f.blocks, sl R3i w2 m_1.has, pt d2 ⟨5, [eDIns d_1]⟩, pt d3 ⟨10, [[.int .i64 0, .int .i64 0, .int .i64 0, .int .i64 0, .int .i64 0, .nils, .str (⟨#[]⟩ : ByteArray), .int .i64 0, .nils, .nils]]⟩, pt d4 ⟨10, [[.int .i64 (IntKind.wrap .i64 (1 + (Int.tmod (IntKind.wrap .i64 d_1.op) 19))), .int .i64 0, .int .i64 0, .int .i64 0, .int .i64 0, v6, .str x2, .int .i64 0, .nils, .nils]]⟩, sl R58i v6 c11] H33 := s40
                      try dsimp only
                      simp only [SQ, hb1, hb3, hb4, hb5, hw1, hlt1_t, hb6, n1, n2, n3, n4, n5, n6]
                      refine callLd (w_dyehouseref12_maker_use kr9) (.cons (Fz_box (s40.pt 0 rfl) (.cons (.cl (closed_bool _)) (.cons (.cl (closed_str _)) (.cons (.cl (cl_map cl_eRg m_1.f.regs)) (.cons (.cl (cl_map cl_eOpd m_1.f.params)) (.cons (s40.fzS 1 rfl) (.cons (.cl (cl_map cl_eInt m_1.ids.a0)) (.cons (.cl (cl_map cl_eInt m_1.ids.a1)) (.cons (s40.fzS 2 rfl) (.nil)))))))))) (.cons (.cl (closed_int _ _)) (.cons (.cl (closed_int _ _)) (.nil)))) (flat_agg (flA (flat_int _ _) (flA (flat_int _ _) (flA (flat_int _ _) (flA (flat_int _ _) fl0))))) ?_
                      simp only [SQ, hb1, hb3, hb4, hb5, hw1, hlt1_t, hb6, n1, n2, n3, n4, n5, n6]
                      refine hold_intro ?_
                      exact ⟨v10, rfl, rfl, put_got _ _ _, s40⟩
                    ·
                      rintro _ F7 H34 s41
                      replace s41 : HS F7 [pt d1 ⟨8, [[.bool m_1.f.machine, .str m_1.f.name, .sim (m_1.f.regs.map eRg) false, .sim (m_1.f.params.map eOpd) false, w1, .sim (m_1.ids.a0.map eInt) false, .sim (m_1.ids.a1.map eInt) false, w2]]⟩, sl R63t2sie w1 m_1.f.blocks, sl R3i w2 m_1.has, pt d2 ⟨5, [eDIns d_1]⟩, pt d3 ⟨10, [[.int .i64 0, .int .i64 0, .int .i64 0, .int .i64 0, .int .i64 0, .nils, .str (⟨#[]⟩ : ByteArray), .int .i64 0, .nils, .nils]]⟩, pt d4 ⟨10, [[.int .i64 (IntKind.wrap .i64 (1 + (Int.tmod (IntKind.wrap .i64 d_1.op) 19))), .int .i64 0, .int .i64 0, .int .i64 0, .int .i64 0, v6, .str x2, .int .i64 0, .nils, .nils]]⟩, sl R58i v6 c11] H34 := s41
                      try dsimp only
                      simp only [SQ, ty23, ty58, sOpd, hb1, hb3, hb4, hb5, hw1, hlt1_t, hb6, n1, n2, n3, n4, n5, n6]
                      refine N_sl ([r9] : List Opd) R58i s41 rfl rfl (by first | rfl | simp only [SQ]) (by first | rfl | simp only [List.length_map, List.length_replicate]) (zip_flat rfl) ?_
                      intro v10 H35 s42
                      simp only [SQ, hb1, hb3, hb4, hb5, hw1, hlt1_t, hb6, n1, n2, n3, n4, n5, n6]
                      refine hold_intro ?_
                      exact ⟨v10, rfl, rfl, put_got _ _ _, s42.sel [1, 2, 3, 4, 5, 6, 7, 0] (by decide)⟩
                  ·
                    rintro v10 H36 s43
                    replace s43 : HS F [pt d1 ⟨8, [[.bool m_1.f.machine, .str m_1.f.name, .sim (m_1.f.regs.map eRg) false, .sim (m_1.f.params.map eOpd) false, w1, .sim (m_1.ids.a0.map eInt) false, .sim (m_1.ids.a1.map eInt) false, w2]]⟩, sl R63t2sie w1 m_1.f.blocks, sl R3i w2 m_1.has, pt d2 ⟨5, [eDIns d_1]⟩, pt d3 ⟨10, [[.int .i64 0, .int .i64 0, .int .i64 0, .int .i64 0, .int .i64 0, .nils, .str (⟨#[]⟩ : ByteArray), .int .i64 0, .nils, .nils]]⟩, pt d4 ⟨10, [[.int .i64 (IntKind.wrap .i64 (1 + (Int.tmod (IntKind.wrap .i64 d_1.op) 19))), .int .i64 0, .int .i64 0, .int .i64 0, .int .i64 0, v6, .str x2, .int .i64 0, .nils, .nils]]⟩, sl R58i v6 c11, sl R58i v10 ([r9] : List Opd)] H36 := s43
                    try dsimp only
                    simp only [SQ, dvs_some, dvs_none, dvs_nil, List.take_succ_cons, List.take_zero, List.drop_succ_cons, List.drop_zero, ty23, ty58, hb1, hb3, hb4, hb5, hw1, hlt1_t, hb6, n1, n2, n3, n4, n5, n6]
                    refine N_app (xs := c11) (ys := ([r9] : List Opd)) 6 s43 rfl rfl ty23 rfl ty23 rfl ty58 rfl rfl rfl (by decide) rfl (s43.srowsi 7 rfl) kl3 (fun _ _ e => by cases e) ?_
                    intro v11 H37 s44
                    simp only [SQ, ty66, ty23, s44.cf 0 rfl, s44.b 6 rfl, hb1, hb3, hb4, hb5, hw1, hlt1_t, hb6, n1, n2, n3, n4, n5, n6]
                    refine N_put 6 s44 rfl fun H38 s45 => ?_
                    simp only [SQ, hb1, hb3, hb4, hb5, hw1, hlt1_t, hb6, n1, n2, n3, n4, n5, n6]
                    refine hold_intro ?_
                    refine U_reg ?_
                    simp only [SQ, hb1, hb3, hb4, hb5, hw1, hlt1_t, hb6, n1, n2, n3, n4, n5, n6]
                    refine hold_intro ?_
                    replace hr1 := Option.some.inj hr1
                    subst hr1
                    refine ⟨(i1 + 1, l3), ?_, hl2, Int.le_add_one hl1, _, ⟨rfl, rfl, by first | rfl | simp only [SQ, hb1, hb3, hb4, hb5, hw1, hlt1_t, hb6, n1, n2, n3, n4, n5, n6]⟩, s45.sel [1, 2, 3, 4, 5, 6, 0] (by decide)⟩
                    show (Int.tmod (IntKind.wrap .i64 d_1.b) 4 - (i1 + 1)).toNat < (Int.tmod (IntKind.wrap .i64 d_1.b) 4 - i1).toNat; omega
              ·
                have hlt1_e := forN_end hf1 hlt1
                have hlt1_t : decide (i1 < (Int.tmod (IntKind.wrap .i64 d_1.b) 4)) = false := decide_eq_false hlt1
                refine U_seq (U_seq ?_)
                refine U_reg ?_
                simp only [SQ, ty130, ty5, s35.b 3 rfl, sDIns, conv_int ty5 ty3 rfl, hb1, hb3, hb4, hb5, hlt1_t, n1, n2, n3, n4, n5, n6]
                refine hold_intro ?_
                refine U_condF (by simp only [SQ, hb1, hb3, hb4, hb5, hlt1_t, n1, n2, n3, n4, n5, n6]) (U_exit rfl ?_)
                cases hlt1_e
                exact ⟨_, ⟨rfl, rfl, by first | rfl | simp only [SQ, hb1, hb3, hb4, hb5, hlt1_t, n1, n2, n3, n4, n5, n6]⟩, s35⟩
            ·
              rintro a4 H39 ⟨v7, f4, s46⟩
              refine U_fi f4 ?_
              refine U_seq ?_
              refine U_reg ?_
              simp only [SQ, ty130, ty5, s46.b 3 rfl, sDIns, hb1, hb3, hb4, hb5, n1, n2, n3, n4, n5, n6]
              refine hold_intro ?_
              rcases Bool.eq_false_or_eq_true (decide (0 < (Int.tmod d_1.d 3))) with hb7 | hb7
              ·
                rw [if_pos hb7] at kj1
                refine U_condT (by simp only [SQ, hb1, hb3, hb4, hb5, hb7, n1, n2, n3, n4, n5, n6]) ?_
                obtain ⟨⟨r10, m3⟩, kr10, kj1⟩ := bndO kj1
                dsimp only at kj1
                refine U_reg ?_
                have s47 := s46.fold [0, 1, 2, 3, 4, 5, 6] 3 (by decide) (fold_x (R := R125t4st2sie7sie) (x := m_1) rfl (R125t4st2sie7sie_f (x := m_1)))
                simp only [SQ, ty130, ty5, s46.b 3 rfl, sDIns, hb1, hb3, hb4, hb5, hb7, n1, n2, n3, n4, n5, n6]
                refine callS (w_dyehouseref12_maker_give_2 kr10) (s47.sel [0, 1, 2, 3, 4] (by decide)) rfl ?_
                rintro _ H40 _ ⟨rfl, rfl⟩ s48
                simp only [SQ, ty66, ty58, sOpd, xOpd, s48.b 3 rfl, hb1, hb3, hb4, hb5, hb7, n1, n2, n3, n4, n5, n6]
                refine N_put 3 s48 rfl fun H41 s49 => ?_
                simp only [SQ, hb1, hb3, hb4, hb5, hb7, n1, n2, n3, n4, n5, n6]
                refine hold_intro ?_
                replace kj1 := Option.some.inj kj1
                obtain ⟨q43, q44⟩ := Prod.mk.inj kj1
                clear kj1
                obtain ⟨q45, q46⟩ := Prod.mk.inj q44
                clear q44
                obtain ⟨q47, q48⟩ := Prod.mk.inj q46
                clear q46
                obtain ⟨q49, q50⟩ := Prod.mk.inj q48
                clear q48
                obtain ⟨q51, q52⟩ := Prod.mk.inj q50
                clear q50
                obtain ⟨q53, q54⟩ := Prod.mk.inj q52
                clear q52
                obtain ⟨q55, q56⟩ := Prod.mk.inj q54
                clear q54
                subst q43
                subst q45
                subst q47
                subst q49
                subst q51
                subst q53
                subst q55
                subst q56
                exact ⟨_, ⟨rfl, rfl, by first | rfl | simp only [SQ, hb1, hb3, hb4, hb5, hb7, n1, n2, n3, n4, n5, n6]⟩, s49.sel [2, 3, 4, 0] (by decide)⟩
              ·
                rw [if_neg (by rw [hb7]; decide)] at kj1
                refine U_condF (by simp only [SQ, hb1, hb3, hb4, hb5, hb7, n1, n2, n3, n4, n5, n6]) ?_
                refine U_skip ?_
                have s50 := s46.fold [0, 1, 2, 3, 4, 5, 6] 3 (by decide) (fold_x (R := R125t4st2sie7sie) (x := m_1) rfl (R125t4st2sie7sie_f (x := m_1)))
                replace kj1 := Option.some.inj kj1
                obtain ⟨q57, q58⟩ := Prod.mk.inj kj1
                clear kj1
                obtain ⟨q59, q60⟩ := Prod.mk.inj q58
                clear q58
                obtain ⟨q61, q62⟩ := Prod.mk.inj q60
                clear q60
                obtain ⟨q63, q64⟩ := Prod.mk.inj q62
                clear q62
                obtain ⟨q65, q66⟩ := Prod.mk.inj q64
                clear q64
                obtain ⟨q67, q68⟩ := Prod.mk.inj q66
                clear q66
                obtain ⟨q69, q70⟩ := Prod.mk.inj q68
                clear q68
                subst q57
                subst q59
                subst q61
                subst q63
                subst q65
                subst q67
                subst q69
                subst q70
                exact ⟨_, ⟨rfl, rfl, by first | rfl | simp only [SQ, hb1, hb3, hb4, hb5, hb7, n1, n2, n3, n4, n5, n6]⟩, s50.sel [2, 3, 4, 0] (by decide)⟩
          ·
            rw [if_neg (by rw [hb5]; decide)] at kj1
            refine U_condF (by simp only [SQ, hb1, hb3, hb4, hb5, n1, n2, n3, n4, n5, n6]) ?_
            refine U_seq ?_
            refine U_fr 170 [(0, .pb d1 0 0), (3, .pb d2 0 0), (4, .pb d3 0 0), (6, .pb d4 0 0)] rfl rfl rfl ?_
            obtain ⟨r11, kr11, kj1⟩ := bndO kj1
            obtain ⟨r12, kr12, kj1⟩ := bndO kj1
            refine U_any (Γ := Unit) hm [0, 0, 2, 7, 0, 16, 48, 127, 255, 511, 1023] 7 () [pt d4 ⟨10, [[.int .i64 (IntKind.wrap .i64 (1 + (Int.tmod (IntKind.wrap .i64 d_1.op) 19))), .int .i64 0, .int .i64 0, .int .i64 0, .int .i64 0, .nils, .str (⟨#[]⟩ : ByteArray), .int .i64 0, .nils, .nils]]⟩, pt d3 ⟨10, [[.int .i64 0, .int .i64 0, .int .i64 0, .int .i64 0, .int .i64 0, .nils, .str (⟨#[]⟩ : ByteArray), .int .i64 0, .nils, .nils]]⟩, pt d2 ⟨5, [eDIns d_1]⟩, sl R3i w2 m_1.has, sl R63t2sie w1 m_1.f.blocks, pt d1 ⟨8, [[.bool m_1.f.machine, .str m_1.f.name, .sim (m_1.f.regs.map eRg) false, .sim (m_1.f.params.map eOpd) false, w1, .sim (m_1.ids.a0.map eInt) false, .sim (m_1.ids.a1.map eInt) false, w2]]⟩] (fun _ => [(16, .pb d1 0 0), (17, .pb d2 0 2), (18, .int .u8 d_1.a), (19, .agg (eOpd r11)), (20, .pb d2 0 4), (21, .int .i16 d_1.n), (22, .int .i64 (IntKind.wrap .i64 d_1.n)), (0, .pb d1 0 0), (3, .pb d2 0 0), (4, .pb d3 0 0), (6, .pb d4 0 0)]) (fun _ => []) [] [false, false, false, true, false, false, false] (by decide +kernel) (by decide) (by decide) (by decide) (fun _ => rfl) (fun _ => rfl) (s6) ?_ ?_ ?_
            ·
              rintro _ F8 H42 s51
              simp only [SQ, AllP_f, AllP_t, AllP_n, AllP_nil, put_got, and_true, and_self, eq_self, dvs_some, dvs_none, dvs_nil, List.take_succ_cons, List.take_zero, List.drop_succ_cons, List.drop_zero, ty130, ty5, s51.b 2 rfl, sDIns, ty128, conv_int ty128 ty3 rfl, hb1, hb3, hb4, hb5, n1, n2, n3, n4, n5, n6]
            ·
              refine ⟨?_, trivial⟩
              ·
                rintro _ F9 H43 s52
                replace s52 : HS F9 [pt d4 ⟨10, [[.int .i64 (IntKind.wrap .i64 (1 + (Int.tmod (IntKind.wrap .i64 d_1.op) 19))), .int .i64 0, .int .i64 0, .int .i64 0, .int .i64 0, .nils, .str (⟨#[]⟩ : ByteArray), .int .i64 0, .nils, .nils]]⟩, pt d3 ⟨10, [[.int .i64 0, .int .i64 0, .int .i64 0, .int .i64 0, .int .i64 0, .nils, .str (⟨#[]⟩ : ByteArray), .int .i64 0, .nils, .nils]]⟩, pt d2 ⟨5, [eDIns d_1]⟩, sl R3i w2 m_1.has, sl R63t2sie w1 m_1.f.blocks, pt d1 ⟨8, [[.bool m_1.f.machine, .str m_1.f.name, .sim (m_1.f.regs.map eRg) false, .sim (m_1.f.params.map eOpd) false, w1, .sim (m_1.ids.a0.map eInt) false, .sim (m_1.ids.a1.map eInt) false, w2]]⟩] H43 := s52
                try dsimp only
                simp only [SQ, hb1, hb3, hb4, hb5, n1, n2, n3, n4, n5, n6]
                refine callLd (w_dyehouseref12_maker_use kr11) (.cons (Fz_box (s52.pt 5 rfl) (.cons (.cl (closed_bool _)) (.cons (.cl (closed_str _)) (.cons (.cl (cl_map cl_eRg m_1.f.regs)) (.cons (.cl (cl_map cl_eOpd m_1.f.params)) (.cons (s52.fzS 4 rfl) (.cons (.cl (cl_map cl_eInt m_1.ids.a0)) (.cons (.cl (cl_map cl_eInt m_1.ids.a1)) (.cons (s52.fzS 3 rfl) (.nil)))))))))) (.cons (.cl (closed_int _ _)) (.cons (.cl (closed_int _ _)) (.nil)))) (flat_agg (flA (flat_int _ _) (flA (flat_int _ _) (flA (flat_int _ _) (flA (flat_int _ _) fl0))))) ?_
                simp only [SQ, hb1, hb3, hb4, hb5, n1, n2, n3, n4, n5, n6]
                refine hold_intro ?_
                exact ⟨(), rfl, rfl, put_got _ _ _, s52⟩
            ·
              rintro _ H44 s53
              replace s53 : HS F [pt d4 ⟨10, [[.int .i64 (IntKind.wrap .i64 (1 + (Int.tmod (IntKind.wrap .i64 d_1.op) 19))), .int .i64 0, .int .i64 0, .int .i64 0, .int .i64 0, .nils, .str (⟨#[]⟩ : ByteArray), .int .i64 0, .nils, .nils]]⟩, pt d3 ⟨10, [[.int .i64 0, .int .i64 0, .int .i64 0, .int .i64 0, .int .i64 0, .nils, .str (⟨#[]⟩ : ByteArray), .int .i64 0, .nils, .nils]]⟩, pt d2 ⟨5, [eDIns d_1]⟩, sl R3i w2 m_1.has, sl R63t2sie w1 m_1.f.blocks, pt d1 ⟨8, [[.bool m_1.f.machine, .str m_1.f.name, .sim (m_1.f.regs.map eRg) false, .sim (m_1.f.params.map eOpd) false, w1, .sim (m_1.ids.a0.map eInt) false, .sim (m_1.ids.a1.map eInt) false, w2]]⟩] H44 := s53
              try dsimp only
              simp only [SQ, dvs_some, dvs_none, dvs_nil, List.take_succ_cons, List.take_zero, List.drop_succ_cons, List.drop_zero, hb1, hb3, hb4, hb5, n1, n2, n3, n4, n5, n6]
              refine callP (w_dyehouseref12_imm kr12) ?_
              simp only [SQ, ty23, ty58, sOpd, hb1, hb3, hb4, hb5, n1, n2, n3, n4, n5, n6]
              refine N_sl ([r11, r12] : List Opd) R58i s53 rfl rfl (by first | rfl | simp only [SQ]) (by first | rfl | simp only [List.length_map, List.length_replicate]) (zip_flat rfl) ?_
              intro v12 H45 s54
              simp only [SQ, ty66, ty23, s54.cf 0 rfl, s54.b 1 rfl, hb1, hb3, hb4, hb5, n1, n2, n3, n4, n5, n6]
              refine N_put 1 s54 rfl fun H46 s55 => ?_
              simp only [SQ, hb1, hb3, hb4, hb5, n1, n2, n3, n4, n5, n6]
              refine hold_intro ?_
              refine U_seq ?_
              refine U_fr 170 [(0, .pb d1 0 0), (3, .pb d2 0 0), (4, .pb d3 0 0), (6, .pb d4 0 0)] rfl rfl rfl ?_
              obtain ⟨c13, kj3, kj1⟩ := bndO kj1
              refine U_cut (fun a' H' => Fi a' 170 [(0, .pb d1 0 0), (3, .pb d2 0 0), (4, .pb d3 0 0), (6, .pb d4 0 0)] ∧ HS F [pt d1 ⟨8, [[.bool m_1.f.machine, .str m_1.f.name, .sim (m_1.f.regs.map eRg) false, .sim (m_1.f.params.map eOpd) false, w1, .sim (m_1.ids.a0.map eInt) false, .sim (m_1.ids.a1.map eInt) false, w2]]⟩, sl R63t2sie w1 m_1.f.blocks, sl R3i w2 m_1.has, pt d2 ⟨5, [eDIns d_1]⟩, pt d3 ⟨10, [[.int .i64 0, .int .i64 0, .int .i64 0, .int .i64 0, .int .i64 0, .nils, .str (⟨#[]⟩ : ByteArray), .int .i64 0, .nils, .nils]]⟩, pt d4 ⟨10, [[.int .i64 (IntKind.wrap .i64 (1 + (Int.tmod (IntKind.wrap .i64 d_1.op) 19))), .int .i64 0, .int .i64 0, .int .i64 0, .int .i64 0, v12, .str (⟨#[]⟩ : ByteArray), .int .i64 0, .nils, .nils]]⟩, sl R58i v12 c13] H') ?_ ?_
              ·
                refine U_seq ?_
                refine U_reg ?_
                simp only [SQ, ty130, ty5, s55.b 3 rfl, sDIns, hb1, hb3, hb4, hb5, n1, n2, n3, n4, n5, n6]
                refine hold_intro ?_
                rcases Bool.eq_false_or_eq_true (decide (0 < (Int.tmod d_1.b 3))) with hb8 | hb8
                ·
                  rw [if_pos hb8] at kj3
                  refine U_condT (by simp only [SQ, hb1, hb3, hb4, hb5, hb8, n1, n2, n3, n4, n5, n6]) ?_
                  refine U_fr 170 [(0, .pb d1 0 0), (3, .pb d2 0 0), (4, .pb d3 0 0), (6, .pb d4 0 0)] rfl rfl rfl ?_
                  obtain ⟨r13, kr13, kj3⟩ := bndO kj3
                  obtain ⟨x3, kx3, kj3⟩ := bndO kj3
                  obtain ⟨l4, kl4, kj3⟩ := bndO kj3
                  refine U_any (Γ := Unit) hm [0, 1, 0, 0, 8, 28, 63, 127] 6 () [sl R58i v12 ([r11, r12] : List Opd), pt d4 ⟨10, [[.int .i64 (IntKind.wrap .i64 (1 + (Int.tmod (IntKind.wrap .i64 d_1.op) 19))), .int .i64 0, .int .i64 0, .int .i64 0, .int .i64 0, v12, .str (⟨#[]⟩ : ByteArray), .int .i64 0, .nils, .nils]]⟩, pt d3 ⟨10, [[.int .i64 0, .int .i64 0, .int .i64 0, .int .i64 0, .int .i64 0, .nils, .str (⟨#[]⟩ : ByteArray), .int .i64 0, .nils, .nils]]⟩, pt d2 ⟨5, [eDIns d_1]⟩, sl R3i w2 m_1.has, sl R63t2sie w1 m_1.f.blocks, pt d1 ⟨8, [[.bool m_1.f.machine, .str m_1.f.name, .sim (m_1.f.regs.map eRg) false, .sim (m_1.f.params.map eOpd) false, w1, .sim (m_1.ids.a0.map eInt) false, .sim (m_1.ids.a1.map eInt) false, w2]]⟩] (fun _ => [(30, .pb d4 0 5), (31, v12), (32, .pb d1 0 0), (33, .pb d2 0 3), (34, .int .u8 d_1.b), (35, .agg (eOpd r13)), (0, .pb d1 0 0), (3, .pb d2 0 0), (4, .pb d3 0 0), (6, .pb d4 0 0)]) (fun _ => []) [] [false, false, false, false, false, true] (by decide +kernel) (by decide) (by decide) (by decide) (fun _ => rfl) (fun _ => rfl) (s55) ?_ ?_ ?_
                  ·
                    rintro _ F10 H48 s57
                    simp only [SQ, AllP_f, AllP_t, AllP_n, AllP_nil, put_got, and_true, and_self, eq_self, dvs_some, dvs_none, dvs_nil, List.take_succ_cons, List.take_zero, List.drop_succ_cons, List.drop_zero, ty66, ty23, s57.b 1 rfl, ty130, ty5, s57.b 3 rfl, sDIns, hb1, hb3, hb4, hb5, hb8, n1, n2, n3, n4, n5, n6]
                  ·
                    refine ⟨?_, trivial⟩
                    ·
                      rintro _ F11 H49 s58
                      replace s58 : HS F11 [sl R58i v12 ([r11, r12] : List Opd), pt d4 ⟨10, [[.int .i64 (IntKind.wrap .i64 (1 + (Int.tmod (IntKind.wrap .i64 d_1.op) 19))), .int .i64 0, .int .i64 0, .int .i64 0, .int .i64 0, v12, .str (⟨#[]⟩ : ByteArray), .int .i64 0, .nils, .nils]]⟩, pt d3 ⟨10, [[.int .i64 0, .int .i64 0, .int .i64 0, .int .i64 0, .int .i64 0, .nils, .str (⟨#[]⟩ : ByteArray), .int .i64 0, .nils, .nils]]⟩, pt d2 ⟨5, [eDIns d_1]⟩, sl R3i w2 m_1.has, sl R63t2sie w1 m_1.f.blocks, pt d1 ⟨8, [[.bool m_1.f.machine, .str m_1.f.name, .sim (m_1.f.regs.map eRg) false, .sim (m_1.f.params.map eOpd) false, w1, .sim (m_1.ids.a0.map eInt) false, .sim (m_1.ids.a1.map eInt) false, w2]]⟩] H49 := s58
                      try dsimp only
                      simp only [SQ, hb1, hb3, hb4, hb5, hb8, n1, n2, n3, n4, n5, n6]
                      refine callLd (w_dyehouseref12_maker_use kr13) (.cons (Fz_box (s58.pt 6 rfl) (.cons (.cl (closed_bool _)) (.cons (.cl (closed_str _)) (.cons (.cl (cl_map cl_eRg m_1.f.regs)) (.cons (.cl (cl_map cl_eOpd m_1.f.params)) (.cons (s58.fzS 5 rfl) (.cons (.cl (cl_map cl_eInt m_1.ids.a0)) (.cons (.cl (cl_map cl_eInt m_1.ids.a1)) (.cons (s58.fzS 4 rfl) (.nil)))))))))) (.cons (.cl (closed_int _ _)) (.cons (.cl (closed_int _ _)) (.nil)))) (flat_agg (flA (flat_int _ _) (flA (flat_int _ _) (flA (flat_int _ _) (flA (flat_int _ _) fl0))))) ?_
                      simp only [SQ, hb1, hb3, hb4, hb5, hb8, n1, n2, n3, n4, n5, n6]
                      refine hold_intro ?_
                      exact ⟨(), rfl, rfl, put_got _ _ _, s58⟩
                  ·
                    rintro _ H50 s59
                    replace s59 : HS F [sl R58i v12 ([r11, r12] : List Opd), pt d4 ⟨10, [[.int .i64 (IntKind.wrap .i64 (1 + (Int.tmod (IntKind.wrap .i64 d_1.op) 19))), .int .i64 0, .int .i64 0, .int .i64 0, .int .i64 0, v12, .str (⟨#[]⟩ : ByteArray), .int .i64 0, .nils, .nils]]⟩, pt d3 ⟨10, [[.int .i64 0, .int .i64 0, .int .i64 0, .int .i64 0, .int .i64 0, .nils, .str (⟨#[]⟩ : ByteArray), .int .i64 0, .nils, .nils]]⟩, pt d2 ⟨5, [eDIns d_1]⟩, sl R3i w2 m_1.has, sl R63t2sie w1 m_1.f.blocks, pt d1 ⟨8, [[.bool m_1.f.machine, .str m_1.f.name, .sim (m_1.f.regs.map eRg) false, .sim (m_1.f.params.map eOpd) false, w1, .sim (m_1.ids.a0.map eInt) false, .sim (m_1.ids.a1.map eInt) false, w2]]⟩] H50 := s59
                    try dsimp only
                    obtain ⟨w5_i, w5_r, w5_a, w5_1⟩ := s59.at (P := Try.prog) (k := .i64) 0 rfl ty23 rfl ty58 rfl kx3
                    simp only [SQ, dvs_some, dvs_none, dvs_nil, List.take_succ_cons, List.take_zero, List.drop_succ_cons, List.drop_zero, ty23, ty58, w5_1, hb1, hb3, hb4, hb5, hb8, n1, n2, n3, n4, n5, n6]
                    refine N_st (y := r13) 0 s59 rfl w5_a kx3 ty58 rfl (by first | rfl | simp only [SQ, sOpd, splice_all', hb1, hb3, hb4, hb5, hb8, n1, n2, n3, n4, n5, n6]) (by first | decide | simp only [SQ, sOpd, splice_all', hb1, hb3, hb4, hb5, hb8, n1, n2, n3, n4, n5, n6] <;> decide) (by simp only [SQ, sOpd, splice_all', hb1, hb3, hb4, hb5, hb8, n1, n2, n3, n4, n5, n6]) (by first | rfl | simp only [SQ, sOpd, splice_all', hb1, hb3, hb4, hb5, hb8, n1, n2, n3, n4, n5, n6] <;> rfl) kl4 fun H51 s60 => ?_
                    simp only [SQ, hb1, hb3, hb4, hb5, hb8, n1, n2, n3, n4, n5, n6]
                    refine hold_intro ?_
                    replace kj3 := Option.some.inj kj3
                    subst kj3
                    exact ⟨⟨rfl, rfl, by first | rfl | simp only [SQ, hb1, hb3, hb4, hb5, hb8, n1, n2, n3, n4, n5, n6]⟩, s60.sel [6, 5, 4, 3, 2, 1, 0] (by decide)⟩
                ·
                  rw [if_neg (by rw [hb8]; decide)] at kj3
                  refine U_condF (by simp only [SQ, hb1, hb3, hb4, hb5, hb8, n1, n2, n3, n4, n5, n6]) ?_
                  refine U_skip ?_
                  replace kj3 := Option.some.inj kj3
                  subst kj3
                  exact ⟨⟨rfl, rfl, by first | rfl | simp only [SQ, hb1, hb3, hb4, hb5, hb8, n1, n2, n3, n4, n5, n6]⟩, s55.sel [6, 5, 4, 3, 2, 1, 0] (by decide)⟩
              ·
                rintro a5 H47 ⟨f5, s56⟩
                refine U_fi f5 ?_
                obtain ⟨⟨r14, m4⟩, kr14, kj1⟩ := bndO kj1
                dsimp only at kj1
                refine U_reg ?_
                have s61 := s56.fold [0, 1, 2, 3, 4, 5, 6] 3 (by decide) (fold_x (R := R125t4st2sie7sie) (x := m_1) rfl (R125t4st2sie7sie_f (x := m_1)))
                simp only [SQ, ty130, ty5, s56.b 3 rfl, sDIns, hb1, hb3, hb4, hb5, n1, n2, n3, n4, n5, n6]
                refine callS (w_dyehouseref12_maker_give_2 kr14) (s61.sel [0, 1, 2, 3, 4] (by decide)) rfl ?_
                rintro _ H52 _ ⟨rfl, rfl⟩ s62
                simp only [SQ, ty66, ty58, sOpd, xOpd, s62.b 3 rfl, hb1, hb3, hb4, hb5, n1, n2, n3, n4, n5, n6]
                refine N_put 3 s62 rfl fun H53 s63 => ?_
                simp only [SQ, hb1, hb3, hb4, hb5, n1, n2, n3, n4, n5, n6]
                refine hold_intro ?_
                replace kj1 := Option.some.inj kj1
                obtain ⟨q71, q72⟩ := Prod.mk.inj kj1
                clear kj1
                obtain ⟨q73, q74⟩ := Prod.mk.inj q72
                clear q72
                obtain ⟨q75, q76⟩ := Prod.mk.inj q74
                clear q74
                obtain ⟨q77, q78⟩ := Prod.mk.inj q76
                clear q76
                obtain ⟨q79, q80⟩ := Prod.mk.inj q78
                clear q78
                obtain ⟨q81, q82⟩ := Prod.mk.inj q80
                clear q80
                obtain ⟨q83, q84⟩ := Prod.mk.inj q82
                clear q82
                subst q71
                subst q73
                subst q75
                subst q77
                subst q79
                subst q81
                subst q83
                subst q84
                exact ⟨_, ⟨rfl, rfl, by first | rfl | simp only [SQ, hb1, hb3, hb4, hb5, n1, n2, n3, n4, n5, n6]⟩, s63.sel [2, 3, 4, 0] (by decide)⟩
  ·
    rintro a1 H5 ⟨v1, f1, s7⟩
    refine U_fi f1 ?_
    refine U_seq ?_
    refine U_reg ?_
    simp only [SQ, ty66, s7.b 1 rfl, s7.cf 2 rfl, s7.b 0 rfl, n1, n2, n3, n4, n5, n6]
    refine N_put 0 s7 rfl fun H54 s64 => ?_
    simp only [SQ, n1, n2, n3, n4, n5, n6]
    refine hold_intro ?_
    refine U_ret ?_
    replace h := Option.some.inj h
    obtain ⟨q85, q86⟩ := Prod.mk.inj h
    clear h
    subst q85
    subst q86
    have s65 := s64.nil' R9i
    have s66 := s65.nil' R3i
    exact ⟨.agg [.int .i64 (IntKind.wrap .i64 (1 + (Int.tmod (IntKind.wrap .i64 d_1.op) 19))), .int .i64 c2, .int .i64 c3, .int .i64 c4, .int .i64 c5, v1, .str c7, .int .i64 c8, .nils, .nils], by simp only [ires, iress, Try.results90, SQ, List.toList_toArray, s64.b 0 rfl, ty66, n1, n2, n3, n4, n5, n6], _, ⟨_, _, _, rfl, rfl⟩, s66.sel [5, 4, 1, 0] (by decide)⟩

end Go.Proofs.Ytodafoajkajnkaa.IL
