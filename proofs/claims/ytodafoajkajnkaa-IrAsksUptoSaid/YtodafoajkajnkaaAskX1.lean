/- The code of functions computes the pure ones. Printed by tq.py. -/
import Derived.Test.YtodafoajkajnkaaQT
import Derived.Test.YtodafoajkajnkaaSL
import Derived.Test.YtodafoajkajnkaaAskP
set_option linter.unusedVariables false
set_option linter.unusedSimpArgs false
set_option linter.defProp false
set_option maxRecDepth 100000
set_option maxHeartbeats 2000000
namespace Go.Proofs.Ytodafoajkajnkaa.IL
open Go Go.RowKit PL
open Nat renaming reduceLT → n1, reduceEqDiff → n2, reduceAdd → n3, reduceLeDiff → n4, reduceMul → n5
open Int renaming reduceEq → n6

def R58i : Rp Opd := Ri eOpd 4 (fun _ => rfl) cl_eOpd
theorem R58i_nl : R58i.nl := nl_i

def R84i : Rp Rg := Ri eRg 2 (fun _ => rfl) cl_eRg
theorem R84i_nl : R84i.nl := nl_i

def R66i : Rp Ins := Ri eIns 10 (fun _ => rfl) cl_eIns
theorem R66i_nl : R66i.nl := nl_i

def R61si : Rp (List Ins) := Rs R66i
theorem R61si_nl : R61si.nl := nl_s R66i_nl

def R23si : Rp (List Opd) := Rs R58i
theorem R23si_nl : R23si.nl := nl_s R58i_nl

def R63t2si3sie : Rp Bl := Rc (Ri (fun x : Bl => [.str x.label, .bool x.edge]) 2 (fun _ => rfl) (fun x => (cl_cons (closed_str _) rfl (cl_cons (closed_bool _) rfl cl_nil)))) (fun x => x) (Rc R23si (fun x : Bl => x.ins) (Rc R61si (fun x : Bl => x.code) (Rn)))
theorem R63t2si3sie_nl : R63t2si3sie.nl := (nl_c nl_i (nl_c R23si_nl (nl_c R61si_nl nl_n)))
theorem R63t2si3sie_o {F : SA} {L : List SA} {H : Heap} {row : List IV} {x : Bl} (n : Nat) (hs : HS F L H) (hn : L[n]? = some (R63t2si3sie.p row x)) : ∃ w0 w1, row = [.str x.label, .bool x.edge, w0, w1] ∧ HS F (sl R66i w1 x.code :: sl R58i w0 x.ins :: L.eraseIdx n) H := by
  obtain ⟨c0a, c0b, rfl, hs⟩ := hs.opc n hn
  obtain ⟨rfl, hs⟩ := hs.opi 0 rfl
  obtain ⟨c1a, c1b, rfl, hs⟩ := hs.opc 0 rfl
  obtain ⟨w0, rfl, hs⟩ := hs.ops 0 rfl
  obtain ⟨c2a, c2b, rfl, hs⟩ := hs.opc 1 rfl
  obtain ⟨w1, rfl, hs⟩ := hs.ops 0 rfl
  obtain ⟨rfl, hs⟩ := hs.opn 1 rfl
  exact ⟨w0, w1, rfl, hs⟩
theorem R63t2si3sie_f {x : Bl} {w0 w1 : IV} (p : Part) (h : Sep [sl R58i w0 x.ins, sl R66i w1 x.code] p) : R63t2si3sie.p [.str x.label, .bool x.edge, w0, w1] x p := (fc_i (fc_s (fc_s fold_n))) p h

def R3i : Rp Int := Ri eInt 1 (fun _ => rfl) cl_eInt
theorem R3i_nl : R3i.nl := nl_i

def R9i : Rp ByteArray := Ri eStr 1 (fun _ => rfl) cl_eStr
theorem R9i_nl : R9i.nl := nl_i

def R63i : Rp Bl := Ri eBl 4 (fun _ => rfl) cl_eBl
theorem R63i_nl : R63i.nl := nl_i

theorem xOpd (x : Opd) : eOpd x = [.int .i64 x.kind, .int .i64 x.cls, .int .i64 x.n, .int .i64 x.tag] := rfl

theorem w_dyehouseref12_Large {fuel : Nat} {f_1 : Fnc} {r0_ : Bool} (h : p_dyehouseref12_Large fuel f_1 = some r0_) : Pure1 Try.prog 13 [.agg (eFnc f_1)] (.bool r0_) := by
  refine Pure1_S (all_cl (cl_agg (cl_eFnc _)) all_cl0) fun F H s0 => ?_
  refine U_call 0 Try.func13 rfl (by kernel_rfl) (by simp [Try.ntmps13]) ?_
  rw [Try.ntmps13]
  refine U_fr 101 [(0, .agg (eFnc f_1))] rfl rfl rfl ?_
  unfold p_dyehouseref12_Large at h
  refine U_seq ?_
  refine U_reg ?_
  simp only [SQ, ty26, sFnc, n1, n2, n3, n4, n5, n6]
  refine N_box s0 rfl fun d1 H1 s1 => ?_
  simp only [SQ, n1, n2, n3, n4, n5, n6]
  refine hold_intro ?_
  refine U_seq ?_
  refine U_reg ?_
  simp only [SQ, ty26, ty9, s1.b 0 rfl, sFnc, len_str ty9 rfl, ty22, len_sim ty22 rfl, ty23, len_sim ty23 rfl, n1, n2, n3, n4, n5, n6]
  refine hold_intro ?_
  refine U_seq ?_
  refine U_seq ?_
  refine U_fr 101 [(1, .pb d1 0 0), (3, .int .i64 (IntKind.wrap .i64 ((IntKind.wrap .i64 ((f_1.name.size : Int) + (f_1.regs.length : Int))) + (f_1.params.length : Int))))] rfl rfl rfl ?_
  refine U_reg ?_
  simp only [SQ, n1, n2, n3, n4, n5, n6]
  refine hold_intro ?_
  refine U_fr 101 [(1, .pb d1 0 0), (3, .int .i64 (IntKind.wrap .i64 ((IntKind.wrap .i64 ((f_1.name.size : Int) + (f_1.regs.length : Int))) + (f_1.params.length : Int)))), (4, .int .i64 0)] rfl rfl rfl ?_
  obtain ⟨nv_2, he1, h⟩ := bndO h
  obtain ⟨hhi1, hlo1, he1⟩ := toN_facts he1
  refine U_cut (fun a' H' => Fi a' 101 [(1, .pb d1 0 0), (3, .int .i64 nv_2)] ∧ HS F [pt d1 ⟨5, [eFnc f_1]⟩] H') (U_block (U_loop (fun z_ a' H' => match z_ with | (i1, nv_1) => forN ((f_1.blocks.length : Int) - i1).toNat i1 (fun i s => p_dyehouseref12_Large_b1 fuel f_1 i s) nv_1 = some nv_2 ∧ 0 ≤ i1 ∧ Fi a' 101 [(1, .pb d1 0 0), (3, .int .i64 nv_1), (4, .int .i64 i1)] ∧ HS F [pt d1 ⟨5, [eFnc f_1]⟩] H' : (Int × Int) → Fr → Heap → Prop) (fun z_ : Int × Int => ((f_1.blocks.length : Int) - z_.1).toNat) (0, IntKind.wrap .i64 ((IntKind.wrap .i64 ((f_1.name.size : Int) + (f_1.regs.length : Int))) + (f_1.params.length : Int))) ?_ ?_)) ?_
  · exact ⟨he1, Int.le_refl _, ⟨rfl, rfl, rfl⟩, s1⟩
  ·
    rintro ⟨i1, nv_1⟩ a1 H2 ⟨hf1, hl1, f1, s2⟩
    refine U_fi f1 ?_
    by_cases hlt1 : i1 < (f_1.blocks.length : Int)
    ·
      obtain ⟨u2, hr1, hl2⟩ := forN_step hf1 hlt1
      replace hr1 : p_dyehouseref12_Large_b1 fuel f_1 i1 nv_1 = some u2 := hr1
      unfold p_dyehouseref12_Large_b1 at hr1
      have hw1 := wrap_next hlt1 hhi1 hlo1 hl1
      have hlt1_t : decide (i1 < (f_1.blocks.length : Int)) = true := decide_eq_true hlt1
      refine U_seq (U_seq ?_)
      refine U_reg ?_
      simp only [SQ, ty26, ty24, s2.b 0 rfl, sFnc, len_sim ty24 rfl, hw1, hlt1_t, n1, n2, n3, n4, n5, n6]
      refine hold_intro ?_
      refine U_condT (by simp only [SQ, hw1, hlt1_t, n1, n2, n3, n4, n5, n6]) (U_skip ?_)
      refine U_seq ?_
      refine U_block ?_
      refine U_seq ?_
      obtain ⟨x1, kx1, hr1⟩ := bndO hr1
      refine U_drawQ hm [0, 0, 2, 0, 14, 30, 62, 126, 255, 0, 512, 0, 3584, 7680, 15872, 32256, 65535, 131071] false 16 (by decide +kernel) (by decide) ?_
      simp only [SQ, ty26, ty24, s2.b 0 rfl, sFnc, ty63, iia_sim (f := eBl) ty24 rfl ty63 kx1 rfl, row_sim (f := eBl) kx1, sBl, ty9, len_str ty9 rfl, ty23, len_sim ty23 rfl, hw1, hlt1_t, n1, n2, n3, n4, n5, n6]
      refine hold_intro ?_
      refine U_seq ?_
      refine U_fr 101 [(1, .pb d1 0 0), (3, .int .i64 (IntKind.wrap .i64 ((IntKind.wrap .i64 (nv_1 + (x1.label.size : Int))) + (x1.ins.length : Int)))), (4, .int .i64 i1)] rfl rfl rfl ?_
      refine U_reg ?_
      simp only [SQ, hw1, hlt1_t, n1, n2, n3, n4, n5, n6]
      refine hold_intro ?_
      refine U_fr 101 [(1, .pb d1 0 0), (3, .int .i64 (IntKind.wrap .i64 ((IntKind.wrap .i64 (nv_1 + (x1.label.size : Int))) + (x1.ins.length : Int)))), (4, .int .i64 i1), (5, .int .i64 0)] rfl rfl rfl ?_
      obtain ⟨nv_4, he2, hr1⟩ := bndO hr1
      obtain ⟨hhi2, hlo2, he2⟩ := toN_facts he2
      refine U_cut (fun a' H' => Fi a' 101 [(1, .pb d1 0 0), (3, .int .i64 nv_4), (4, .int .i64 i1)] ∧ HS F [pt d1 ⟨5, [eFnc f_1]⟩] H') (U_block (U_loop (fun z_ a' H' => match z_ with | (i2, nv_3) => forN ((x1.code.length : Int) - i2).toNat i2 (fun i s => p_dyehouseref12_Large_b2 fuel x1 i s) nv_3 = some nv_4 ∧ 0 ≤ i2 ∧ Fi a' 101 [(1, .pb d1 0 0), (3, .int .i64 nv_3), (4, .int .i64 i1), (5, .int .i64 i2)] ∧ HS F [pt d1 ⟨5, [eFnc f_1]⟩] H' : (Int × Int) → Fr → Heap → Prop) (fun z_ : Int × Int => ((x1.code.length : Int) - z_.1).toNat) (0, IntKind.wrap .i64 ((IntKind.wrap .i64 (nv_1 + (x1.label.size : Int))) + (x1.ins.length : Int))) ?_ ?_)) ?_
      · exact ⟨he2, Int.le_refl _, ⟨rfl, rfl, by first | rfl | simp only [SQ, hw1, hlt1_t, n1, n2, n3, n4, n5, n6]⟩, s2⟩
      ·
        rintro ⟨i2, nv_3⟩ a2 H3 ⟨hf2, hl3, f2, s3⟩
        refine U_fi f2 ?_
        by_cases hlt2 : i2 < (x1.code.length : Int)
        ·
          obtain ⟨u4, hr2, hl4⟩ := forN_step hf2 hlt2
          replace hr2 : p_dyehouseref12_Large_b2 fuel x1 i2 nv_3 = some u4 := hr2
          unfold p_dyehouseref12_Large_b2 at hr2
          have hw2 := wrap_next hlt2 hhi2 hlo2 hl3
          have hlt2_t : decide (i2 < (x1.code.length : Int)) = true := decide_eq_true hlt2
          refine U_seq (U_seq ?_)
          refine U_reg ?_
          simp only [SQ, ty26, ty24, s3.b 0 rfl, sFnc, ty63, iia_sim (f := eBl) ty24 rfl ty63 kx1 rfl, row_sim (f := eBl) kx1, sBl, ty61, len_sim ty61 rfl, hw1, hlt1_t, hw2, hlt2_t, n1, n2, n3, n4, n5, n6]
          refine hold_intro ?_
          refine U_condT (by simp only [SQ, hw1, hlt1_t, hw2, hlt2_t, n1, n2, n3, n4, n5, n6]) (U_skip ?_)
          refine U_seq ?_
          refine U_block ?_
          refine U_seq ?_
          obtain ⟨x2, kx2, hr2⟩ := bndO hr2
          refine U_reg ?_
          simp only [SQ, ty26, ty24, s3.b 0 rfl, sFnc, ty63, iia_sim (f := eBl) ty24 rfl ty63 kx1 rfl, row_sim (f := eBl) kx1, sBl, ty61, ty66, iia_sim (f := eIns) ty61 rfl ty66 kx2 rfl, row_sim (f := eIns) kx2, sIns, hw1, hlt1_t, hw2, hlt2_t, n1, n2, n3, n4, n5, n6]
          refine N_box s3 rfl fun d2 H4 s4 => ?_
          simp only [SQ, ty66, sIns, splice_all', s4.b 0 rfl, hw1, hlt1_t, hw2, hlt2_t, n1, n2, n3, n4, n5, n6]
          refine N_put 0 s4 rfl fun H5 s5 => ?_
          simp only [SQ, hw1, hlt1_t, hw2, hlt2_t, n1, n2, n3, n4, n5, n6]
          refine hold_intro ?_
          refine U_seq ?_
          refine U_reg ?_
          simp only [SQ, ty66, ty23, s5.b 0 rfl, sIns, len_sim ty23 rfl, ty9, len_str ty9 rfl, ty37, len_sim ty37 rfl, hw1, hlt1_t, hw2, hlt2_t, n1, n2, n3, n4, n5, n6]
          refine hold_intro ?_
          refine U_seq ?_
          refine U_fr 101 [(1, .pb d1 0 0), (3, .int .i64 (IntKind.wrap .i64 ((IntKind.wrap .i64 ((IntKind.wrap .i64 ((IntKind.wrap .i64 (nv_3 + 1)) + (x2.args.length : Int))) + (x2.name.size : Int))) + (x2.cases.length : Int)))), (4, .int .i64 i1), (5, .int .i64 i2), (6, .pb d2 0 0)] rfl rfl rfl ?_
          refine U_reg ?_
          simp only [SQ, hw1, hlt1_t, hw2, hlt2_t, n1, n2, n3, n4, n5, n6]
          refine hold_intro ?_
          refine U_fr 101 [(1, .pb d1 0 0), (3, .int .i64 (IntKind.wrap .i64 ((IntKind.wrap .i64 ((IntKind.wrap .i64 ((IntKind.wrap .i64 (nv_3 + 1)) + (x2.args.length : Int))) + (x2.name.size : Int))) + (x2.cases.length : Int)))), (4, .int .i64 i1), (5, .int .i64 i2), (6, .pb d2 0 0), (7, .int .i64 0)] rfl rfl rfl ?_
          obtain ⟨nv_6, he3, hr2⟩ := bndO hr2
          obtain ⟨hhi3, hlo3, he3⟩ := toN_facts he3
          refine U_cut (fun a' H' => Fi a' 101 [(1, .pb d1 0 0), (3, .int .i64 nv_6), (4, .int .i64 i1), (5, .int .i64 i2)] ∧ HS F [pt d1 ⟨5, [eFnc f_1]⟩, pt d2 ⟨10, [eIns x2]⟩] H') (U_block (U_loop (fun z_ a' H' => match z_ with | (i3, nv_5) => forN ((x2.labels.length : Int) - i3).toNat i3 (fun i s => p_dyehouseref12_Large_b3 fuel x2 i s) nv_5 = some nv_6 ∧ 0 ≤ i3 ∧ Fi a' 101 [(1, .pb d1 0 0), (3, .int .i64 nv_5), (4, .int .i64 i1), (5, .int .i64 i2), (6, .pb d2 0 0), (7, .int .i64 i3)] ∧ HS F [pt d1 ⟨5, [eFnc f_1]⟩, pt d2 ⟨10, [eIns x2]⟩] H' : (Int × Int) → Fr → Heap → Prop) (fun z_ : Int × Int => ((x2.labels.length : Int) - z_.1).toNat) (0, IntKind.wrap .i64 ((IntKind.wrap .i64 ((IntKind.wrap .i64 ((IntKind.wrap .i64 (nv_3 + 1)) + (x2.args.length : Int))) + (x2.name.size : Int))) + (x2.cases.length : Int))) ?_ ?_)) ?_
          · exact ⟨he3, Int.le_refl _, ⟨rfl, rfl, by first | rfl | simp only [SQ, hw1, hlt1_t, hw2, hlt2_t, n1, n2, n3, n4, n5, n6]⟩, s5.sel [1, 0] (by decide)⟩
          ·
            rintro ⟨i3, nv_5⟩ a3 H6 ⟨hf3, hl5, f3, s6⟩
            refine U_fi f3 ?_
            by_cases hlt3 : i3 < (x2.labels.length : Int)
            ·
              obtain ⟨u6, hr3, hl6⟩ := forN_step hf3 hlt3
              replace hr3 : p_dyehouseref12_Large_b3 fuel x2 i3 nv_5 = some u6 := hr3
              unfold p_dyehouseref12_Large_b3 at hr3
              have hw3 := wrap_next hlt3 hhi3 hlo3 hl5
              have hlt3_t : decide (i3 < (x2.labels.length : Int)) = true := decide_eq_true hlt3
              refine U_seq (U_seq ?_)
              refine U_reg ?_
              simp only [SQ, ty66, ty64, s6.b 1 rfl, sIns, len_sim ty64 rfl, hw1, hlt1_t, hw2, hlt2_t, hw3, hlt3_t, n1, n2, n3, n4, n5, n6]
              refine hold_intro ?_
              refine U_condT (by simp only [SQ, hw1, hlt1_t, hw2, hlt2_t, hw3, hlt3_t, n1, n2, n3, n4, n5, n6]) (U_skip ?_)
              refine U_seq ?_
              refine U_block ?_
              obtain ⟨x3, kx3, hr3⟩ := bndO hr3
              refine U_reg ?_
              simp only [SQ, ty66, ty64, s6.b 1 rfl, sIns, ty9, iia_sim (f := eStr) ty64 rfl ty9 kx3 rfl, row_sim (f := eStr) kx3, len_str ty9 rfl, hw1, hlt1_t, hw2, hlt2_t, hw3, hlt3_t, n1, n2, n3, n4, n5, n6]
              refine hold_intro ?_
              refine U_reg ?_
              simp only [SQ, hw1, hlt1_t, hw2, hlt2_t, hw3, hlt3_t, n1, n2, n3, n4, n5, n6]
              refine hold_intro ?_
              replace hr3 := Option.some.inj hr3
              subst hr3
              refine ⟨(i3 + 1, IntKind.wrap .i64 ((IntKind.wrap .i64 (nv_5 + 1)) + (x3.size : Int))), ?_, hl6, Int.le_add_one hl5, ⟨rfl, rfl, by first | rfl | simp only [SQ, hw1, hlt1_t, hw2, hlt2_t, hw3, hlt3_t, n1, n2, n3, n4, n5, n6]⟩, s6⟩
              show ((x2.labels.length : Int) - (i3 + 1)).toNat < ((x2.labels.length : Int) - i3).toNat; omega
            ·
              have hlt3_e := forN_end hf3 hlt3
              have hlt3_t : decide (i3 < (x2.labels.length : Int)) = false := decide_eq_false hlt3
              refine U_seq (U_seq ?_)
              refine U_reg ?_
              simp only [SQ, ty66, ty64, s6.b 1 rfl, sIns, len_sim ty64 rfl, hw1, hlt1_t, hw2, hlt2_t, hlt3_t, n1, n2, n3, n4, n5, n6]
              refine hold_intro ?_
              refine U_condF (by simp only [SQ, hw1, hlt1_t, hw2, hlt2_t, hlt3_t, n1, n2, n3, n4, n5, n6]) (U_exit rfl ?_)
              cases hlt3_e
              exact ⟨⟨rfl, rfl, by first | rfl | simp only [SQ, hw1, hlt1_t, hw2, hlt2_t, hlt3_t, n1, n2, n3, n4, n5, n6]⟩, s6⟩
          ·
            rintro a4 H7 ⟨f4, s7⟩
            refine U_fi f4 ?_
            refine U_reg ?_
            simp only [SQ, hw1, hlt1_t, hw2, hlt2_t, n1, n2, n3, n4, n5, n6]
            refine hold_intro ?_
            replace hr2 := Option.some.inj hr2
            subst hr2
            refine ⟨(i2 + 1, nv_6), ?_, hl4, Int.le_add_one hl3, ⟨rfl, rfl, by first | rfl | simp only [SQ, hw1, hlt1_t, hw2, hlt2_t, n1, n2, n3, n4, n5, n6]⟩, s7.sel [0] (by decide)⟩
            show ((x1.code.length : Int) - (i2 + 1)).toNat < ((x1.code.length : Int) - i2).toNat; omega
        ·
          have hlt2_e := forN_end hf2 hlt2
          have hlt2_t : decide (i2 < (x1.code.length : Int)) = false := decide_eq_false hlt2
          refine U_seq (U_seq ?_)
          refine U_reg ?_
          simp only [SQ, ty26, ty24, s3.b 0 rfl, sFnc, ty63, iia_sim (f := eBl) ty24 rfl ty63 kx1 rfl, row_sim (f := eBl) kx1, sBl, ty61, len_sim ty61 rfl, hw1, hlt1_t, hlt2_t, n1, n2, n3, n4, n5, n6]
          refine hold_intro ?_
          refine U_condF (by simp only [SQ, hw1, hlt1_t, hlt2_t, n1, n2, n3, n4, n5, n6]) (U_exit rfl ?_)
          cases hlt2_e
          exact ⟨⟨rfl, rfl, by first | rfl | simp only [SQ, hw1, hlt1_t, hlt2_t, n1, n2, n3, n4, n5, n6]⟩, s3⟩
      ·
        rintro a5 H8 ⟨f5, s8⟩
        refine U_fi f5 ?_
        refine U_reg ?_
        simp only [SQ, hw1, hlt1_t, n1, n2, n3, n4, n5, n6]
        refine hold_intro ?_
        replace hr1 := Option.some.inj hr1
        subst hr1
        refine ⟨(i1 + 1, nv_4), ?_, hl2, Int.le_add_one hl1, ⟨rfl, rfl, by first | rfl | simp only [SQ, hw1, hlt1_t, n1, n2, n3, n4, n5, n6]⟩, s8⟩
        show ((f_1.blocks.length : Int) - (i1 + 1)).toNat < ((f_1.blocks.length : Int) - i1).toNat; omega
    ·
      have hlt1_e := forN_end hf1 hlt1
      have hlt1_t : decide (i1 < (f_1.blocks.length : Int)) = false := decide_eq_false hlt1
      refine U_seq (U_seq ?_)
      refine U_reg ?_
      simp only [SQ, ty26, ty24, s2.b 0 rfl, sFnc, len_sim ty24 rfl, hlt1_t, n1, n2, n3, n4, n5, n6]
      refine hold_intro ?_
      refine U_condF (by simp only [SQ, hlt1_t, n1, n2, n3, n4, n5, n6]) (U_exit rfl ?_)
      cases hlt1_e
      exact ⟨⟨rfl, rfl, by first | rfl | simp only [SQ, hlt1_t, n1, n2, n3, n4, n5, n6]⟩, s2⟩
  ·
    rintro a6 H9 ⟨f6, s9⟩
    refine U_fi f6 ?_
    refine U_seq ?_
    refine U_cut (fun a' H' => Fi a' 101 [(2, .bool ((decide (2000 < nv_2)) || (decide (80 < (f_1.blocks.length : Int)))))] ∧ H9 = H') ?_ ?_
    · refine U_reg ?_
      rcases Bool.eq_false_or_eq_true (decide (2000 < nv_2)) with hb1 | hb1
      ·
        simp only [SQ, hb1, n1, n2, n3, n4, n5, n6]
        refine hold_intro ?_
        exact ⟨⟨rfl, rfl, by first | rfl | simp only [SQ, hb1, n1, n2, n3, n4, n5, n6]⟩, rfl⟩
      ·
        simp only [SQ, ty26, ty24, s9.b 0 rfl, sFnc, len_sim ty24 rfl, hb1, n1, n2, n3, n4, n5, n6]
        refine hold_intro ?_
        exact ⟨⟨rfl, rfl, by first | rfl | simp only [SQ, hb1, n1, n2, n3, n4, n5, n6]⟩, rfl⟩
    · rintro a7 _ ⟨f7, rfl⟩
      refine U_fi f7 ?_
      refine U_ret ?_
      replace h := Option.some.inj h
      subst h
      refine ⟨.bool ((decide (2000 < nv_2)) || (decide (80 < (f_1.blocks.length : Int)))), by simp only [ires, iress, Try.results13, SQ, List.toList_toArray, n1, n2, n3, n4, n5, n6], ?_⟩
      exact .cl (closed_bool _)

theorem w_dyehouselaw12_works_1 {fuel : Nat} {nv_1 : Int} {r0_ : Opd} (h : p_dyehouselaw12_works_1 fuel nv_1 = some r0_) : Pure1 Try.prog 93 [.int .i64 nv_1] (.agg (eOpd r0_)) := by
  refine Pure1_S (all_cl (closed_int _ _) all_cl0) fun F H s0 => ?_
  refine U_call 0 Try.func93 rfl (by kernel_rfl) (by simp [Try.ntmps93]) ?_
  rw [Try.ntmps93]
  refine U_fr 5 [(0, .int .i64 nv_1)] rfl rfl rfl ?_
  unfold p_dyehouselaw12_works_1 at h
  refine U_seq ?_
  refine U_reg ?_
  simp only [SQ, ty58, n1, n2, n3, n4, n5, n6]
  refine N_box s0 rfl fun d1 H1 s1 => ?_
  simp only [SQ, n1, n2, n3, n4, n5, n6]
  refine hold_intro ?_
  refine U_seq ?_
  refine U_reg ?_
  simp only [SQ, ty58, fk58, s1.b 0 rfl, n1, n2, n3, n4, n5, n6]
  refine N_put 0 s1 rfl fun H2 s2 => ?_
  simp only [SQ, n1, n2, n3, n4, n5, n6]
  refine hold_intro ?_
  refine U_ret ?_
  replace h := Option.some.inj h
  subst h
  refine ⟨.agg [.int .i64 1, .int .i64 0, .int .i64 nv_1, .int .i64 0], by simp only [ires, iress, Try.results93, SQ, List.toList_toArray, s2.b 0 rfl, ty58, n1, n2, n3, n4, n5, n6], ?_⟩
  exact Fz_agg (.cons (.cl (closed_int _ _)) (.cons (.cl (closed_int _ _)) (.cons (.cl (closed_int _ _)) (.cons (.cl (closed_int _ _)) (.nil)))))

theorem w_ir_Value {fuel : Nat} {o_1 : Opd} {r0_ : Int} {r1_ : Bool} (h : p_ir_Value fuel o_1 = some (r0_, r1_)) : Pure1 Try.prog 46 [.agg (eOpd o_1)] (.tup [.int .i64 r0_, .bool r1_]) := by
  refine Pure1_S (all_cl (cl_agg (cl_eOpd _)) all_cl0) fun F H s0 => ?_
  refine U_call 0 Try.func46 rfl (by kernel_rfl) (by simp [Try.ntmps46]) ?_
  rw [Try.ntmps46]
  refine U_fr 15 [(0, .agg (eOpd o_1))] rfl rfl rfl ?_
  unfold p_ir_Value at h
  refine U_seq ?_
  refine U_reg ?_
  simp only [SQ, ty58, sOpd, n1, n2, n3, n4, n5, n6]
  refine N_box s0 rfl fun d1 H1 s1 => ?_
  simp only [SQ, n1, n2, n3, n4, n5, n6]
  refine hold_intro ?_
  refine U_seq ?_
  refine U_fr 15 [(1, .pb d1 0 0)] rfl rfl rfl ?_
  obtain ⟨u1, kj1, h⟩ := bndE h
  refine U_cut (fun a' H' => u1 = .n () ∧ Fi a' 15 [] ∧ HS F [] H') ?_ ?_
  ·
    refine U_seq ?_
    refine U_reg ?_
    simp only [SQ, ty58, ty3, s1.b 0 rfl, sOpd, n1, n2, n3, n4, n5, n6]
    refine hold_intro ?_
    refine U_block ?_
    refine U_seq ?_
    refine U_reg ?_
    simp only [SQ, n1, n2, n3, n4, n5, n6]
    refine hold_intro ?_
    rcases Bool.eq_false_or_eq_true (decide (o_1.kind = 1)) with hb1 | hb1
    ·
      rw [if_pos hb1] at kj1
      refine U_condT (by simp only [SQ, hb1, n1, n2, n3, n4, n5, n6]) ?_
      refine U_seq ?_
      refine U_reg ?_
      simp only [SQ, ty58, ty3, s1.b 0 rfl, sOpd, hb1, n1, n2, n3, n4, n5, n6]
      refine hold_intro ?_
      refine U_ret ?_
      replace kj1 := Option.some.inj kj1
      subst kj1
      replace h := outE_r h
      replace h := Option.some.inj h
      obtain ⟨q1, q2⟩ := Prod.mk.inj h
      clear h
      subst q1
      subst q2
      refine ⟨.tup [.int .i64 o_1.n, .bool true], by simp only [ires, iress, Try.results46, SQ, List.toList_toArray, hb1, n1, n2, n3, n4, n5, n6], ?_⟩
      exact Fz_tup (.cons (.cl (closed_int _ _)) (.cons (.cl (closed_bool _)) (.nil)))
    ·
      rw [if_neg (by rw [hb1]; decide)] at kj1
      refine U_condF (by simp only [SQ, hb1, n1, n2, n3, n4, n5, n6]) ?_
      refine U_seq ?_
      refine U_fr 15 [(1, .pb d1 0 0), (5, .int .i64 o_1.kind)] rfl rfl rfl ?_
      obtain ⟨x_1, kj2, kj1⟩ := bndO kj1
      refine U_cut (fun a' H' => Fi a' 15 [(1, .pb d1 0 0), (10, .bool x_1)] ∧ HS F [pt d1 ⟨4, [eOpd o_1]⟩] H') ?_ ?_
      ·
        refine U_seq ?_
        refine U_reg ?_
        simp only [SQ, hb1, n1, n2, n3, n4, n5, n6]
        refine hold_intro ?_
        rcases Bool.eq_false_or_eq_true (decide (o_1.kind = 2)) with hb2 | hb2
        ·
          rw [if_pos hb2] at kj2
          refine U_condT (by simp only [SQ, hb1, hb2, n1, n2, n3, n4, n5, n6]) ?_
          refine U_skip ?_
          replace kj2 := Option.some.inj kj2
          subst kj2
          exact ⟨⟨rfl, rfl, by first | rfl | simp only [SQ, hb1, hb2, n1, n2, n3, n4, n5, n6]⟩, s1⟩
        ·
          rw [if_neg (by rw [hb2]; decide)] at kj2
          refine U_condF (by simp only [SQ, hb1, hb2, n1, n2, n3, n4, n5, n6]) ?_
          refine U_fr 15 [(1, .pb d1 0 0), (5, .int .i64 o_1.kind), (10, .bool (decide (o_1.kind = 2)))] rfl rfl rfl ?_
          refine U_reg ?_
          simp only [SQ, hb1, hb2, n1, n2, n3, n4, n5, n6]
          refine hold_intro ?_
          replace kj2 := Option.some.inj kj2
          subst kj2
          exact ⟨⟨rfl, rfl, by first | rfl | simp only [SQ, hb1, hb2, n1, n2, n3, n4, n5, n6]⟩, s1⟩
      ·
        rintro a2 H3 ⟨f2, s3⟩
        refine U_fi f2 ?_
        rcases Bool.eq_false_or_eq_true (x_1) with hb3 | hb3
        ·
          rw [if_pos hb3] at kj1
          refine U_condT (by simp only [SQ, hb1, hb3, n1, n2, n3, n4, n5, n6]) ?_
          refine U_seq ?_
          refine U_reg ?_
          simp only [SQ, ty58, ty3, s3.b 0 rfl, sOpd, hb1, hb3, n1, n2, n3, n4, n5, n6]
          refine hold_intro ?_
          refine U_ret ?_
          replace kj1 := Option.some.inj kj1
          subst kj1
          replace h := outE_r h
          replace h := Option.some.inj h
          obtain ⟨q3, q4⟩ := Prod.mk.inj h
          clear h
          subst q3
          subst q4
          refine ⟨.tup [.int .i64 o_1.tag, .bool true], by simp only [ires, iress, Try.results46, SQ, List.toList_toArray, hb1, hb3, n1, n2, n3, n4, n5, n6], ?_⟩
          exact Fz_tup (.cons (.cl (closed_int _ _)) (.cons (.cl (closed_bool _)) (.nil)))
        ·
          rw [if_neg (by rw [hb3]; decide)] at kj1
          refine U_condF (by simp only [SQ, hb1, hb3, n1, n2, n3, n4, n5, n6]) ?_
          refine U_skip ?_
          replace kj1 := Option.some.inj kj1
          subst kj1
          exact ⟨rfl, ⟨rfl, rfl, by first | rfl | simp only [SQ, hb1, hb3, n1, n2, n3, n4, n5, n6]⟩, s3.sel [] (by decide)⟩
  ·
    rintro a1 H2 ⟨rfl, f1, s2⟩
    replace h := outE_n h
    refine U_fi f1 ?_
    refine U_seq ?_
    refine U_reg ?_
    simp only [SQ, n1, n2, n3, n4, n5, n6]
    refine hold_intro ?_
    refine U_ret ?_
    replace h := Option.some.inj h
    obtain ⟨q5, q6⟩ := Prod.mk.inj h
    clear h
    subst q5
    subst q6
    refine ⟨.tup [.int .i64 0, .bool false], by simp only [ires, iress, Try.results46, SQ, List.toList_toArray, n1, n2, n3, n4, n5, n6], ?_⟩
    exact Fz_tup (.cons (.cl (closed_int _ _)) (.cons (.cl (closed_bool _)) (.nil)))

theorem w_ir_Def {fuel : Nat} {i_1 : Ins} {r0_ : Int} {r1_ : Bool} (h : p_ir_Def fuel i_1 = some (r0_, r1_)) : Pure1 Try.prog 49 [.agg (eIns i_1)] (.tup [.int .i64 r0_, .bool r1_]) := by
  refine Pure1_S (all_cl (cl_agg (cl_eIns _)) all_cl0) fun F H s0 => ?_
  refine U_call 0 Try.func49 rfl (by kernel_rfl) (by simp [Try.ntmps49]) ?_
  rw [Try.ntmps49]
  refine U_fr 9 [(0, .agg (eIns i_1))] rfl rfl rfl ?_
  unfold p_ir_Def at h
  refine U_seq ?_
  refine U_reg ?_
  simp only [SQ, ty66, sIns, n1, n2, n3, n4, n5, n6]
  refine N_box s0 rfl fun d1 H1 s1 => ?_
  simp only [SQ, n1, n2, n3, n4, n5, n6]
  refine hold_intro ?_
  refine U_seq ?_
  obtain ⟨⟨r1, r2⟩, kr1, h⟩ := bndO h
  dsimp only at h
  refine U_reg ?_
  simp only [SQ, ty66, ty58, s1.b 0 rfl, sIns, n1, n2, n3, n4, n5, n6]
  refine callP (w_ir_Value kr1) ?_
  simp only [SQ, n1, n2, n3, n4, n5, n6]
  refine hold_intro ?_
  refine U_ret ?_
  replace h := Option.some.inj h
  obtain ⟨q1, q2⟩ := Prod.mk.inj h
  clear h
  subst q1
  subst q2
  refine ⟨.tup [.int .i64 r1, .bool r2], by simp only [ires, iress, Try.results49, SQ, List.toList_toArray, n1, n2, n3, n4, n5, n6], ?_⟩
  exact Fz_tup (.cons (.cl (closed_int _ _)) (.cons (.cl (closed_bool _)) (.nil)))

theorem w_ir_Class {fuel : Nat} {f_1 : Fnc} {v_1 : Int} {r0_ : Int} {r1_ : Bool} (h : p_ir_Class fuel f_1 v_1 = some (r0_, r1_)) : Pure1 Try.prog 40 [.agg (eFnc f_1), .int .i64 v_1] (.tup [.int .i64 r0_, .bool r1_]) := by
  refine Pure1_S (all_cl (cl_agg (cl_eFnc _)) (all_cl (closed_int _ _) all_cl0)) fun F H s0 => ?_
  refine U_call 0 Try.func40 rfl (by kernel_rfl) (by simp [Try.ntmps40]) ?_
  rw [Try.ntmps40]
  refine U_fr 22 [(0, .agg (eFnc f_1)), (1, .int .i64 v_1)] rfl rfl rfl ?_
  unfold p_ir_Class at h
  refine U_seq ?_
  refine U_reg ?_
  simp only [SQ, ty26, sFnc, n1, n2, n3, n4, n5, n6]
  refine N_box s0 rfl fun d1 H1 s1 => ?_
  simp only [SQ, n1, n2, n3, n4, n5, n6]
  refine hold_intro ?_
  refine U_seq ?_
  refine U_seq ?_
  refine U_reg ?_
  simp only [SQ, ty26, ty22, s1.b 0 rfl, sFnc, len_sim ty22 rfl, n1, n2, n3, n4, n5, n6]
  refine hold_intro ?_
  refine U_fr 22 [(1, .int .i64 v_1), (9, .sim (f_1.regs.map eRg) false), (10, .int .i64 (f_1.regs.length : Int)), (11, .int .i64 0)] rfl rfl rfl ?_
  obtain ⟨u1, he1, h⟩ := bndE h
  refine U_cut (fun a' H' => ∃ x_1 : Int, u1 = .n x_1 ∧ Fi a' 22 [] ∧ HS F [] H') (U_block (U_loop (fun z_ a' H' => match z_ with | (m1, x_1) => loopE m1 (fun s => p_ir_Class_b1 fuel f_1 v_1 s) x_1 = some u1 ∧ Fi a' 22 [(1, .int .i64 v_1), (9, .sim (f_1.regs.map eRg) false), (10, .int .i64 (f_1.regs.length : Int)), (11, .int .i64 x_1)] ∧ HS F [] H' : (Nat × Int) → Fr → Heap → Prop) (fun z_ : Nat × Int => z_.1) (fuel, 0) ?_ ?_)) ?_
  · exact ⟨he1, ⟨rfl, rfl, rfl⟩, s1.sel [] (by decide)⟩
  ·
    rintro ⟨m1, x_1⟩ a1 H2 ⟨hf1, f1, s2⟩
    refine U_fi f1 ?_
    obtain ⟨m1', m1_lt, u2, hr1, hl2⟩ := loopE_step hf1
    replace hr1 : p_ir_Class_b1 fuel f_1 v_1 x_1 = some u2 := hr1
    unfold p_ir_Class_b1 at hr1
    refine U_seq ?_
    refine U_reg ?_
    simp only [SQ, n1, n2, n3, n4, n5, n6]
    refine hold_intro ?_
    refine U_seq ?_
    rcases Bool.eq_false_or_eq_true (decide (x_1 < (f_1.regs.length : Int))) with hb1 | hb1
    ·
      rw [if_pos hb1] at hr1
      refine U_condT (by simp only [SQ, hb1, n1, n2, n3, n4, n5, n6]) ?_
      refine U_skip ?_
      refine U_seq ?_
      refine U_block ?_
      refine U_seq ?_
      obtain ⟨x1, kx1, hr1⟩ := bndO hr1
      refine U_reg ?_
      simp only [SQ, ty22, ty84, iia_sim (f := eRg) ty22 rfl ty84 kx1 rfl, row_sim (f := eRg) kx1, sRg, hb1, n1, n2, n3, n4, n5, n6]
      refine N_box s2 rfl fun d2 H3 s3 => ?_
      simp only [SQ, ty84, sRg, splice_all', s3.b 0 rfl, hb1, n1, n2, n3, n4, n5, n6]
      refine N_put 0 s3 rfl fun H4 s4 => ?_
      simp only [SQ, hb1, n1, n2, n3, n4, n5, n6]
      refine hold_intro ?_
      refine U_seq ?_
      refine U_reg ?_
      simp only [SQ, ty84, ty3, s4.b 0 rfl, sRg, hb1, n1, n2, n3, n4, n5, n6]
      refine hold_intro ?_
      rcases Bool.eq_false_or_eq_true (decide (x1.id = v_1)) with hb2 | hb2
      ·
        rw [if_pos hb2] at hr1
        refine U_condT (by simp only [SQ, hb1, hb2, n1, n2, n3, n4, n5, n6]) ?_
        refine U_seq ?_
        refine U_fr 22 [(7, .pb d2 0 0)] rfl rfl rfl ?_
        refine U_reg ?_
        simp only [SQ, ty84, ty3, s4.b 0 rfl, sRg, hb1, hb2, n1, n2, n3, n4, n5, n6]
        refine hold_intro ?_
        refine U_ret ?_
        replace hr1 := Option.some.inj hr1
        subst hr1
        replace hl2 : u1 = .r _ := hl2
        subst hl2
        replace h := outE_r h
        replace h := Option.some.inj h
        obtain ⟨q1, q2⟩ := Prod.mk.inj h
        clear h
        subst q1
        subst q2
        refine ⟨.tup [.int .i64 x1.cls, .bool true], by simp only [ires, iress, Try.results40, SQ, List.toList_toArray, hb1, hb2, n1, n2, n3, n4, n5, n6], ?_⟩
        exact Fz_tup (.cons (.cl (closed_int _ _)) (.cons (.cl (closed_bool _)) (.nil)))
      ·
        rw [if_neg (by rw [hb2]; decide)] at hr1
        refine U_condF (by simp only [SQ, hb1, hb2, n1, n2, n3, n4, n5, n6]) ?_
        refine U_skip ?_
        refine U_reg ?_
        simp only [SQ, hb1, hb2, n1, n2, n3, n4, n5, n6]
        refine hold_intro ?_
        replace hr1 := Option.some.inj hr1
        subst hr1
        exact ⟨(m1', IntKind.wrap .i64 (x_1 + 1)), m1_lt, hl2, ⟨rfl, rfl, by first | rfl | simp only [SQ, hb1, hb2, n1, n2, n3, n4, n5, n6]⟩, s4.sel [] (by decide)⟩
    ·
      rw [if_neg (by rw [hb1]; decide)] at hr1
      refine U_condF (by simp only [SQ, hb1, n1, n2, n3, n4, n5, n6]) ?_
      refine U_exit rfl ?_
      replace hr1 := Option.some.inj hr1
      subst hr1
      exact ⟨_, hl2, ⟨rfl, rfl, by first | rfl | simp only [SQ, hb1, n1, n2, n3, n4, n5, n6]⟩, s2⟩
  ·
    rintro a2 H5 ⟨x_2, rfl, f2, s5⟩
    replace h := outE_n h
    refine U_fi f2 ?_
    refine U_seq ?_
    refine U_reg ?_
    simp only [SQ, n1, n2, n3, n4, n5, n6]
    refine hold_intro ?_
    refine U_ret ?_
    replace h := Option.some.inj h
    obtain ⟨q3, q4⟩ := Prod.mk.inj h
    clear h
    subst q3
    subst q4
    refine ⟨.tup [.int .i64 0, .bool false], by simp only [ires, iress, Try.results40, SQ, List.toList_toArray, n1, n2, n3, n4, n5, n6], ?_⟩
    exact Fz_tup (.cons (.cl (closed_int _ _)) (.cons (.cl (closed_bool _)) (.nil)))

theorem w_ir_Put {fuel : Nat} {l_1 : Lc} {v_1 : Int} {r0_ : Opd} (h : p_ir_Put fuel l_1 v_1 = some r0_) : Pure1 Try.prog 95 [.agg (eLc l_1), .int .i64 v_1] (.agg (eOpd r0_)) := by
  refine Pure1_S (all_cl (cl_agg (cl_eLc _)) (all_cl (closed_int _ _) all_cl0)) fun F H s0 => ?_
  refine U_call 0 Try.func95 rfl (by kernel_rfl) (by simp [Try.ntmps95]) ?_
  rw [Try.ntmps95]
  refine U_fr 13 [(0, .agg (eLc l_1)), (1, .int .i64 v_1)] rfl rfl rfl ?_
  unfold p_ir_Put at h
  refine U_seq ?_
  refine U_reg ?_
  simp only [SQ, ty134, sLc, n1, n2, n3, n4, n5, n6]
  refine N_box s0 rfl fun d1 H1 s1 => ?_
  simp only [SQ, ty58, n1, n2, n3, n4, n5, n6]
  refine N_box s1 rfl fun d2 H2 s2 => ?_
  simp only [SQ, n1, n2, n3, n4, n5, n6]
  refine hold_intro ?_
  refine U_seq ?_
  refine U_reg ?_
  simp only [SQ, ty134, ty3, s2.b 1 rfl, sLc, ty58, fk58, s2.b 0 rfl, n1, n2, n3, n4, n5, n6]
  refine N_put 0 s2 rfl fun H3 s3 => ?_
  simp only [SQ, n1, n2, n3, n4, n5, n6]
  refine hold_intro ?_
  refine U_ret ?_
  replace h := Option.some.inj h
  subst h
  refine ⟨.agg [.int .i64 l_1.kind, .int .i64 l_1.cls, .int .i64 l_1.n, .int .i64 v_1], by simp only [ires, iress, Try.results95, SQ, List.toList_toArray, s3.b 0 rfl, ty58, n1, n2, n3, n4, n5, n6], ?_⟩
  exact Fz_agg (.cons (.cl (closed_int _ _)) (.cons (.cl (closed_int _ _)) (.cons (.cl (closed_int _ _)) (.cons (.cl (closed_int _ _)) (.nil)))))

theorem w_ir_At {fuel : Nat} {o_1 : Opd} {r0_ : Lc} {r1_ : Bool} (h : p_ir_At fuel o_1 = some (r0_, r1_)) : Pure1 Try.prog 94 [.agg (eOpd o_1)] (.tup [.agg (eLc r0_), .bool r1_]) := by
  refine Pure1_S (all_cl (cl_agg (cl_eOpd _)) all_cl0) fun F H s0 => ?_
  refine U_call 0 Try.func94 rfl (by kernel_rfl) (by simp [Try.ntmps94]) ?_
  rw [Try.ntmps94]
  refine U_fr 19 [(0, .agg (eOpd o_1))] rfl rfl rfl ?_
  unfold p_ir_At at h
  refine U_seq ?_
  refine U_reg ?_
  simp only [SQ, ty58, sOpd, n1, n2, n3, n4, n5, n6]
  refine N_box s0 rfl fun d1 H1 s1 => ?_
  simp only [SQ, ty134, n1, n2, n3, n4, n5, n6]
  refine N_box s1 rfl fun d2 H2 s2 => ?_
  simp only [SQ, n1, n2, n3, n4, n5, n6]
  refine hold_intro ?_
  refine U_seq ?_
  refine U_seq ?_
  refine U_reg ?_
  simp only [SQ, ty58, ty3, s2.b 1 rfl, sOpd, n1, n2, n3, n4, n5, n6]
  refine hold_intro ?_
  refine U_block ?_
  refine U_seq ?_
  refine U_reg ?_
  simp only [SQ, n1, n2, n3, n4, n5, n6]
  refine hold_intro ?_
  rcases Bool.eq_false_or_eq_true (decide (o_1.kind = 2)) with hb1 | hb1
  ·
    rw [if_pos hb1] at h
    refine U_condT (by simp only [SQ, hb1, n1, n2, n3, n4, n5, n6]) ?_
    refine U_seq ?_
    refine U_reg ?_
    simp only [SQ, ty58, ty3, s2.b 1 rfl, sOpd, ty134, fk134, s2.b 0 rfl, hb1, n1, n2, n3, n4, n5, n6]
    refine N_put 0 s2 rfl fun H3 s3 => ?_
    simp only [SQ, hb1, n1, n2, n3, n4, n5, n6]
    refine hold_intro ?_
    refine U_ret ?_
    replace h := Option.some.inj h
    obtain ⟨q1, q2⟩ := Prod.mk.inj h
    clear h
    subst q1
    subst q2
    refine ⟨.tup [.agg [.int .i64 2, .int .i64 o_1.cls, .int .i64 o_1.n], .bool true], by simp only [ires, iress, Try.results94, SQ, List.toList_toArray, s3.b 0 rfl, ty134, hb1, n1, n2, n3, n4, n5, n6], ?_⟩
    exact Fz_tup (.cons (Fz_agg (.cons (.cl (closed_int _ _)) (.cons (.cl (closed_int _ _)) (.cons (.cl (closed_int _ _)) (.nil))))) (.cons (.cl (closed_bool _)) (.nil)))
  ·
    rw [if_neg (by rw [hb1]; decide)] at h
    refine U_condF (by simp only [SQ, hb1, n1, n2, n3, n4, n5, n6]) ?_
    refine U_seq ?_
    refine U_fr 19 [(1, .pb d1 0 0), (2, .pb d2 0 0), (5, .int .i64 o_1.kind)] rfl rfl rfl ?_
    refine U_reg ?_
    simp only [SQ, hb1, n1, n2, n3, n4, n5, n6]
    refine hold_intro ?_
    rcases Bool.eq_false_or_eq_true (decide (o_1.kind = 3)) with hb2 | hb2
    ·
      rw [if_pos hb2] at h
      refine U_condT (by simp only [SQ, hb1, hb2, n1, n2, n3, n4, n5, n6]) ?_
      refine U_seq ?_
      refine U_reg ?_
      simp only [SQ, ty58, ty3, s2.b 1 rfl, sOpd, ty134, fk134, s2.b 0 rfl, hb1, hb2, n1, n2, n3, n4, n5, n6]
      refine N_put 0 s2 rfl fun H4 s4 => ?_
      simp only [SQ, hb1, hb2, n1, n2, n3, n4, n5, n6]
      refine hold_intro ?_
      refine U_ret ?_
      replace h := Option.some.inj h
      obtain ⟨q3, q4⟩ := Prod.mk.inj h
      clear h
      subst q3
      subst q4
      refine ⟨.tup [.agg [.int .i64 3, .int .i64 0, .int .i64 o_1.n], .bool true], by simp only [ires, iress, Try.results94, SQ, List.toList_toArray, s4.b 0 rfl, ty134, hb1, hb2, n1, n2, n3, n4, n5, n6], ?_⟩
      exact Fz_tup (.cons (Fz_agg (.cons (.cl (closed_int _ _)) (.cons (.cl (closed_int _ _)) (.cons (.cl (closed_int _ _)) (.nil))))) (.cons (.cl (closed_bool _)) (.nil)))
    ·
      rw [if_neg (by rw [hb2]; decide)] at h
      refine U_condF (by simp only [SQ, hb1, hb2, n1, n2, n3, n4, n5, n6]) ?_
      refine U_skip ?_
      refine U_seq ?_
      refine U_reg ?_
      simp only [SQ, ty134, fk134, s2.b 0 rfl, hb1, hb2, n1, n2, n3, n4, n5, n6]
      refine N_put 0 s2 rfl fun H5 s5 => ?_
      simp only [SQ, hb1, hb2, n1, n2, n3, n4, n5, n6]
      refine hold_intro ?_
      refine U_ret ?_
      replace h := Option.some.inj h
      obtain ⟨q5, q6⟩ := Prod.mk.inj h
      clear h
      subst q5
      subst q6
      refine ⟨.tup [.agg [.int .i64 0, .int .i64 0, .int .i64 0], .bool false], by simp only [ires, iress, Try.results94, SQ, List.toList_toArray, s5.b 0 rfl, ty134, hb1, hb2, n1, n2, n3, n4, n5, n6], ?_⟩
      exact Fz_tup (.cons (Fz_agg (.cons (.cl (closed_int _ _)) (.cons (.cl (closed_int _ _)) (.cons (.cl (closed_int _ _)) (.nil))))) (.cons (.cl (closed_bool _)) (.nil)))

theorem w_ir_Operands {fuel : Nat} {f_1 : Fnc} {r0_ : Fnc} (h : p_ir_Operands fuel f_1 = some r0_) : Pure1 Try.prog 36 [.agg (eFnc f_1)] (.fn (.func 101) [] [.pim [eFnc r0_] 0 0]) := by
  refine Pure1_S (all_cl (cl_agg (cl_eFnc _)) all_cl0) fun F H s0 => ?_
  refine U_call 0 Try.func36 rfl (by kernel_rfl) (by simp [Try.ntmps36]) ?_
  rw [Try.ntmps36]
  refine U_fr 4 [(0, .agg (eFnc f_1))] rfl rfl rfl ?_
  unfold p_ir_Operands at h
  refine U_seq ?_
  refine U_reg ?_
  simp only [SQ, ty26, sFnc, n1, n2, n3, n4, n5, n6]
  refine N_box s0 rfl fun d1 H1 s1 => ?_
  simp only [SQ, n1, n2, n3, n4, n5, n6]
  refine hold_intro ?_
  refine U_seq ?_
  refine U_reg ?_
  simp only [SQ, n1, n2, n3, n4, n5, n6]
  refine hold_intro ?_
  refine U_ret ?_
  replace h := Option.some.inj h
  subst h
  refine ⟨.fn (.func 101) [] [.pb d1 0 0], by simp only [ires, iress, Try.results36, SQ, List.toList_toArray, n1, n2, n3, n4, n5, n6], ?_⟩
  exact Fz_fn (.cons (Fz_box (s1.pt 0 rfl) (fzs_cl (cl_eFnc f_1))) (.nil))

theorem w_ir_Operands_1_1 {fuel : Nat} {σ : Type} {y : σ → Opd → Option (Bool × σ)} {I : Bool × σ → SA} {id : Id} (hY : YS Try.prog id (fun x : Opd => .agg (eOpd x)) y I) {d1_ : Id} {l_1 : List Opd} {p_1 : Unit} {w1 : Bool × σ} {r0_ : Bool} {m2_ : Bool × σ} (h : p_ir_Operands_1_1 fuel y l_1 p_1 w1 = some (r0_, m2_)) : CallS Try.prog 102 [.sim (l_1.map eOpd) false, .pb d1_ 0 0] [pt d1_ ⟨1, [[.yld id]]⟩, I w1] (fun r L => (r = (.bool r0_) ∧ L = [pt d1_ ⟨1, [[.yld id]]⟩, I m2_])) := by
  intro F H s0
  refine U_call 0 Try.func102 rfl (by kernel_rfl) (by simp [Try.ntmps102]) ?_
  rw [Try.ntmps102]
  refine U_fr 17 [(0, .sim (l_1.map eOpd) false), (1, .pb d1_ 0 0)] rfl rfl rfl ?_
  unfold p_ir_Operands_1_1 at h
  refine U_seq ?_
  refine U_reg ?_
  simp only [SQ, n1, n2, n3, n4, n5, n6]
  refine hold_intro ?_
  refine U_seq ?_
  refine U_seq ?_
  refine U_reg ?_
  simp only [SQ, len_sim ty23 rfl, n1, n2, n3, n4, n5, n6]
  refine hold_intro ?_
  refine U_fr 17 [(1, .pb d1_ 0 0), (6, .sim (l_1.map eOpd) false), (7, .int .i64 (l_1.length : Int)), (8, .int .i64 0)] rfl rfl rfl ?_
  obtain ⟨u1, he1, h⟩ := bndE h
  refine U_cut (fun a' H' => ∃ x_1 : Int, ∃ c1 : Bool × σ, u1 = .n (x_1, c1) ∧ Fi a' 17 [] ∧ HS F [pt d1_ ⟨1, [[.yld id]]⟩, I c1] H') (U_block (U_loop (fun z_ a' H' => match z_ with | (m1, x_1, c1) => loopE m1 (fun s => p_ir_Operands_1_1_b1 fuel y l_1 s.1 s.2) (x_1, c1) = some u1 ∧ Fi a' 17 [(1, .pb d1_ 0 0), (6, .sim (l_1.map eOpd) false), (7, .int .i64 (l_1.length : Int)), (8, .int .i64 x_1)] ∧ HS F [pt d1_ ⟨1, [[.yld id]]⟩, I c1] H' : (Nat × Int × (Bool × σ)) → Fr → Heap → Prop) (fun z_ : Nat × Int × (Bool × σ) => z_.1) (fuel, 0, w1) ?_ ?_)) ?_
  · exact ⟨he1, ⟨rfl, rfl, rfl⟩, s0⟩
  ·
    rintro ⟨m1, x_1, c1⟩ a1 H1 ⟨hf1, f1, s1⟩
    refine U_fi f1 ?_
    obtain ⟨m1', m1_lt, u2, hr1, hl2⟩ := loopE_step hf1
    replace hr1 : p_ir_Operands_1_1_b1 fuel y l_1 x_1 c1 = some u2 := hr1
    unfold p_ir_Operands_1_1_b1 at hr1
    refine U_seq ?_
    refine U_reg ?_
    simp only [SQ, n1, n2, n3, n4, n5, n6]
    refine hold_intro ?_
    refine U_seq ?_
    rcases Bool.eq_false_or_eq_true (decide (x_1 < (l_1.length : Int))) with hb1 | hb1
    ·
      rw [if_pos hb1] at hr1
      refine U_condT (by simp only [SQ, hb1, n1, n2, n3, n4, n5, n6]) ?_
      refine U_skip ?_
      refine U_seq ?_
      refine U_block ?_
      refine U_seq ?_
      obtain ⟨x1, kx1, hr1⟩ := bndO hr1
      refine U_reg ?_
      simp only [SQ, ty23, ty58, iia_sim (f := eOpd) ty23 rfl ty58 kx1 rfl, row_sim (f := eOpd) kx1, sOpd, hb1, n1, n2, n3, n4, n5, n6]
      refine N_box s1 rfl fun d1 H2 s2 => ?_
      simp only [SQ, ty58, sOpd, splice_all', s2.b 0 rfl, hb1, n1, n2, n3, n4, n5, n6]
      refine N_put 0 s2 rfl fun H3 s3 => ?_
      simp only [SQ, hb1, n1, n2, n3, n4, n5, n6]
      refine hold_intro ?_
      refine U_seq ?_
      obtain ⟨⟨r1, m2⟩, kr1, hr1⟩ := bndO hr1
      dsimp only at hr1
      refine U_reg ?_
      simp only [SQ, ty141, s3.b 1 rfl, ty58, s3.b 0 rfl, sOpd, hb1, n1, n2, n3, n4, n5, n6]
      refine callYS (iv := fun x : Opd => .agg (eOpd x)) hY s3 2 rfl kr1 fun H4 s4 => ?_
      simp only [SQ, hb1, n1, n2, n3, n4, n5, n6]
      refine hold_intro ?_
      rcases Bool.eq_false_or_eq_true ((!r1)) with hb2 | hb2
      ·
        rw [if_pos hb2] at hr1
        refine U_condT (by simp only [SQ, hb1, hb2, n1, n2, n3, n4, n5, n6]) ?_
        refine U_seq ?_
        refine U_fr 17 [] rfl rfl rfl ?_
        refine U_reg ?_
        simp only [SQ, hb1, hb2, n1, n2, n3, n4, n5, n6]
        refine hold_intro ?_
        refine U_ret ?_
        replace hr1 := Option.some.inj hr1
        subst hr1
        replace hl2 : u1 = .r _ := hl2
        subst hl2
        replace h := outE_r h
        replace h := Option.some.inj h
        obtain ⟨q1, q2⟩ := Prod.mk.inj h
        clear h
        subst q1
        subst q2
        exact ⟨.bool false, by simp only [ires, iress, Try.results102, SQ, List.toList_toArray, hb1, hb2, n1, n2, n3, n4, n5, n6], _, ⟨rfl, rfl⟩, s4.sel [2, 0] (by decide)⟩
      ·
        rw [if_neg (by rw [hb2]; decide)] at hr1
        refine U_condF (by simp only [SQ, hb1, hb2, n1, n2, n3, n4, n5, n6]) ?_
        refine U_skip ?_
        refine U_reg ?_
        simp only [SQ, hb1, hb2, n1, n2, n3, n4, n5, n6]
        refine hold_intro ?_
        replace hr1 := Option.some.inj hr1
        subst hr1
        exact ⟨(m1', IntKind.wrap .i64 (x_1 + 1), m2), m1_lt, hl2, ⟨rfl, rfl, by first | rfl | simp only [SQ, hb1, hb2, n1, n2, n3, n4, n5, n6]⟩, s4.sel [2, 0] (by decide)⟩
    ·
      rw [if_neg (by rw [hb1]; decide)] at hr1
      refine U_condF (by simp only [SQ, hb1, n1, n2, n3, n4, n5, n6]) ?_
      refine U_exit rfl ?_
      replace hr1 := Option.some.inj hr1
      subst hr1
      exact ⟨_, _, hl2, ⟨rfl, rfl, by first | rfl | simp only [SQ, hb1, n1, n2, n3, n4, n5, n6]⟩, s1⟩
  ·
    rintro a2 H5 ⟨x_2, c2, rfl, f2, s5⟩
    replace h := outE_n h
    dsimp only at h
    refine U_fi f2 ?_
    refine U_seq ?_
    refine U_reg ?_
    simp only [SQ, n1, n2, n3, n4, n5, n6]
    refine hold_intro ?_
    refine U_ret ?_
    replace h := Option.some.inj h
    obtain ⟨q3, q4⟩ := Prod.mk.inj h
    clear h
    subst q3
    subst q4
    exact ⟨.bool true, by simp only [ires, iress, Try.results102, SQ, List.toList_toArray, n1, n2, n3, n4, n5, n6], _, ⟨rfl, rfl⟩, s5.sel [0, 1] (by decide)⟩

theorem w_ir_Operands_1 {fuel : Nat} {σ : Type} {y : σ → Opd → Option (Bool × σ)} {I : Bool × σ → SA} {id : Id} (hY : YS Try.prog id (fun x : Opd => .agg (eOpd x)) y I) {p_1 : Fnc} {w1 : Bool × σ} {m1_ : Bool × σ} (h : p_ir_Operands_1 fuel y p_1 w1 = some m1_) : CallS Try.prog 101 [.yld id, .pim [eFnc p_1] 0 0] [I w1] (fun r L => (r = (.tup []) ∧ L = [I m1_])) := by
  intro F H s0
  refine U_call 0 Try.func101 rfl (by kernel_rfl) (by simp [Try.ntmps101]) ?_
  rw [Try.ntmps101]
  refine U_fr 47 [(0, .yld id), (1, .pim [eFnc p_1] 0 0)] rfl rfl rfl ?_
  unfold p_ir_Operands_1 at h
  refine U_seq ?_
  refine U_reg ?_
  simp only [SQ, ty141, n1, n2, n3, n4, n5, n6]
  refine N_box s0 rfl fun d1 H1 s1 => ?_
  simp only [SQ, n1, n2, n3, n4, n5, n6]
  refine hold_intro ?_
  refine U_seq ?_
  refine U_reg ?_
  simp only [SQ, n1, n2, n3, n4, n5, n6]
  refine hold_intro ?_
  refine U_seq ?_
  refine U_seq ?_
  obtain ⟨⟨r1, m1⟩, kr1, h⟩ := bndO h
  dsimp only at h
  refine U_reg ?_
  simp only [SQ, ty26, ty23, sFnc, n1, n2, n3, n4, n5, n6]
  refine callS (w_ir_Operands_1_1 hY kr1) (s1.sel [0, 1] (by decide)) rfl ?_
  rintro _ H2 _ ⟨rfl, rfl⟩ s2
  simp only [SQ, n1, n2, n3, n4, n5, n6]
  refine hold_intro ?_
  rcases Bool.eq_false_or_eq_true ((!r1)) with hb1 | hb1
  ·
    rw [if_pos hb1] at h
    refine U_condT (by simp only [SQ, hb1, n1, n2, n3, n4, n5, n6]) ?_
    refine U_ret ?_
    replace h := Option.some.inj h
    subst h
    exact ⟨.tup [], by simp only [ires, iress, Try.results101, SQ, List.toList_toArray, hb1, n1, n2, n3, n4, n5, n6], _, ⟨rfl, rfl⟩, s2.sel [1] (by decide)⟩
  ·
    rw [if_neg (by rw [hb1]; decide)] at h
    refine U_condF (by simp only [SQ, hb1, n1, n2, n3, n4, n5, n6]) ?_
    refine U_skip ?_
    refine U_seq ?_
    refine U_reg ?_
    simp only [SQ, ty26, ty24, sFnc, len_sim ty24 rfl, hb1, n1, n2, n3, n4, n5, n6]
    refine hold_intro ?_
    refine U_fr 47 [(0, .yld id), (2, .pb d1 0 0), (3, .fn (.func 102) [] [.pb d1 0 0]), (15, .sim (p_1.blocks.map eBl) false), (16, .int .i64 (p_1.blocks.length : Int)), (17, .int .i64 0)] rfl rfl rfl ?_
    obtain ⟨u1, he1, h⟩ := bndE h
    refine U_cut (fun a' H' => ∃ x_1 : Int, ∃ c1 : Bool × σ, u1 = .n (x_1, c1) ∧ Fi a' 47 [(0, .yld id)] ∧ HS F [pt d1 ⟨1, [[.yld id]]⟩, I c1] H') (U_block (U_loop (fun z_ a' H' => match z_ with | (m2, x_1, c1) => loopE m2 (fun s => p_ir_Operands_1_b1 fuel y p_1 s.1 s.2) (x_1, c1) = some u1 ∧ Fi a' 47 [(0, .yld id), (2, .pb d1 0 0), (3, .fn (.func 102) [] [.pb d1 0 0]), (15, .sim (p_1.blocks.map eBl) false), (16, .int .i64 (p_1.blocks.length : Int)), (17, .int .i64 x_1)] ∧ HS F [pt d1 ⟨1, [[.yld id]]⟩, I c1] H' : (Nat × Int × (Bool × σ)) → Fr → Heap → Prop) (fun z_ : Nat × Int × (Bool × σ) => z_.1) (fuel, 0, m1) ?_ ?_)) ?_
    · exact ⟨he1, ⟨rfl, rfl, by first | rfl | simp only [SQ, hb1, n1, n2, n3, n4, n5, n6]⟩, s2⟩
    ·
      rintro ⟨m2, x_1, c1⟩ a1 H3 ⟨hf1, f1, s3⟩
      refine U_fi f1 ?_
      obtain ⟨m2', m2_lt, u2, hr1, hl2⟩ := loopE_step hf1
      replace hr1 : p_ir_Operands_1_b1 fuel y p_1 x_1 c1 = some u2 := hr1
      unfold p_ir_Operands_1_b1 at hr1
      refine U_seq ?_
      refine U_reg ?_
      simp only [SQ, hb1, n1, n2, n3, n4, n5, n6]
      refine hold_intro ?_
      refine U_seq ?_
      rcases Bool.eq_false_or_eq_true (decide (x_1 < (p_1.blocks.length : Int))) with hb2 | hb2
      ·
        rw [if_pos hb2] at hr1
        refine U_condT (by simp only [SQ, hb1, hb2, n1, n2, n3, n4, n5, n6]) ?_
        refine U_skip ?_
        refine U_seq ?_
        refine U_block ?_
        refine U_seq ?_
        refine U_fr 47 [(0, .yld id), (2, .pb d1 0 0), (3, .fn (.func 102) [] [.pb d1 0 0]), (15, .sim (p_1.blocks.map eBl) false), (16, .int .i64 (p_1.blocks.length : Int)), (17, .int .i64 x_1)] rfl rfl rfl ?_
        obtain ⟨x1, kx1, hr1⟩ := bndO hr1
        refine U_reg ?_
        simp only [SQ, ty24, ty63, iia_sim (f := eBl) ty24 rfl ty63 kx1 rfl, row_sim (f := eBl) kx1, sBl, hb1, hb2, n1, n2, n3, n4, n5, n6]
        refine N_box s3 rfl fun d2 H4 s4 => ?_
        simp only [SQ, ty63, sBl, splice_all', s4.b 0 rfl, hb1, hb2, n1, n2, n3, n4, n5, n6]
        refine N_put 0 s4 rfl fun H5 s5 => ?_
        simp only [SQ, hb1, hb2, n1, n2, n3, n4, n5, n6]
        refine hold_intro ?_
        refine U_seq ?_
        refine U_seq ?_
        obtain ⟨⟨r2, m3⟩, kr2, hr1⟩ := bndO hr1
        dsimp only at hr1
        refine U_reg ?_
        simp only [SQ, ty63, ty23, s5.b 0 rfl, sBl, hb1, hb2, n1, n2, n3, n4, n5, n6]
        refine callS (w_ir_Operands_1_1 hY kr2) (s5.sel [1, 2, 0] (by decide)) rfl ?_
        rintro _ H6 _ ⟨rfl, rfl⟩ s6
        simp only [SQ, hb1, hb2, n1, n2, n3, n4, n5, n6]
        refine hold_intro ?_
        rcases Bool.eq_false_or_eq_true ((!r2)) with hb3 | hb3
        ·
          rw [if_pos hb3] at hr1
          refine U_condT (by simp only [SQ, hb1, hb2, hb3, n1, n2, n3, n4, n5, n6]) ?_
          refine U_ret ?_
          replace hr1 := Option.some.inj hr1
          subst hr1
          replace hl2 : u1 = .r _ := hl2
          subst hl2
          replace h := outE_r h
          replace h := Option.some.inj h
          subst h
          exact ⟨.tup [], by simp only [ires, iress, Try.results101, SQ, List.toList_toArray, hb1, hb2, hb3, n1, n2, n3, n4, n5, n6], _, ⟨rfl, rfl⟩, s6.sel [1] (by decide)⟩
        ·
          rw [if_neg (by rw [hb3]; decide)] at hr1
          refine U_condF (by simp only [SQ, hb1, hb2, hb3, n1, n2, n3, n4, n5, n6]) ?_
          refine U_skip ?_
          refine U_seq ?_
          refine U_reg ?_
          simp only [SQ, ty63, ty61, s6.b 2 rfl, sBl, len_sim ty61 rfl, hb1, hb2, hb3, n1, n2, n3, n4, n5, n6]
          refine hold_intro ?_
          refine U_fr 47 [(0, .yld id), (2, .pb d1 0 0), (3, .fn (.func 102) [] [.pb d1 0 0]), (15, .sim (p_1.blocks.map eBl) false), (16, .int .i64 (p_1.blocks.length : Int)), (17, .int .i64 x_1), (27, .sim (x1.code.map eIns) false), (28, .int .i64 (x1.code.length : Int)), (29, .int .i64 0)] rfl rfl rfl ?_
          obtain ⟨u3, he2, hr1⟩ := bndE hr1
          refine U_cut (fun a' H' => ∃ x_3 : Int, ∃ c3 : Bool × σ, u3 = .n (x_3, c3) ∧ Fi a' 47 [(0, .yld id), (2, .pb d1 0 0), (3, .fn (.func 102) [] [.pb d1 0 0]), (15, .sim (p_1.blocks.map eBl) false), (16, .int .i64 (p_1.blocks.length : Int)), (17, .int .i64 x_1)] ∧ HS F [pt d1 ⟨1, [[.yld id]]⟩, I c3] H') (U_block (U_loop (fun z_ a' H' => match z_ with | (m4, x_3, c3) => loopE m4 (fun s => p_ir_Operands_1_b2 fuel y x1 s.1 s.2) (x_3, c3) = some u3 ∧ Fi a' 47 [(0, .yld id), (2, .pb d1 0 0), (3, .fn (.func 102) [] [.pb d1 0 0]), (15, .sim (p_1.blocks.map eBl) false), (16, .int .i64 (p_1.blocks.length : Int)), (17, .int .i64 x_1), (27, .sim (x1.code.map eIns) false), (28, .int .i64 (x1.code.length : Int)), (29, .int .i64 x_3)] ∧ HS F [pt d1 ⟨1, [[.yld id]]⟩, I c3] H' : (Nat × Int × (Bool × σ)) → Fr → Heap → Prop) (fun z_ : Nat × Int × (Bool × σ) => z_.1) (fuel, 0, m3) ?_ ?_)) ?_
          · exact ⟨he2, ⟨rfl, rfl, by first | rfl | simp only [SQ, hb1, hb2, hb3, n1, n2, n3, n4, n5, n6]⟩, s6.sel [0, 1] (by decide)⟩
          ·
            rintro ⟨m4, x_3, c3⟩ a2 H7 ⟨hf2, f2, s7⟩
            refine U_fi f2 ?_
            obtain ⟨m4', m4_lt, u4, hr2, hl4⟩ := loopE_step hf2
            replace hr2 : p_ir_Operands_1_b2 fuel y x1 x_3 c3 = some u4 := hr2
            unfold p_ir_Operands_1_b2 at hr2
            refine U_seq ?_
            refine U_reg ?_
            simp only [SQ, hb1, hb2, hb3, n1, n2, n3, n4, n5, n6]
            refine hold_intro ?_
            refine U_seq ?_
            rcases Bool.eq_false_or_eq_true (decide (x_3 < (x1.code.length : Int))) with hb4 | hb4
            ·
              rw [if_pos hb4] at hr2
              refine U_condT (by simp only [SQ, hb1, hb2, hb3, hb4, n1, n2, n3, n4, n5, n6]) ?_
              refine U_skip ?_
              refine U_seq ?_
              refine U_block ?_
              refine U_seq ?_
              obtain ⟨x2, kx2, hr2⟩ := bndO hr2
              refine U_reg ?_
              simp only [SQ, ty61, ty66, iia_sim (f := eIns) ty61 rfl ty66 kx2 rfl, row_sim (f := eIns) kx2, sIns, hb1, hb2, hb3, hb4, n1, n2, n3, n4, n5, n6]
              refine N_box s7 rfl fun d3 H8 s8 => ?_
              simp only [SQ, ty66, sIns, splice_all', s8.b 0 rfl, hb1, hb2, hb3, hb4, n1, n2, n3, n4, n5, n6]
              refine N_put 0 s8 rfl fun H9 s9 => ?_
              simp only [SQ, hb1, hb2, hb3, hb4, n1, n2, n3, n4, n5, n6]
              refine hold_intro ?_
              refine U_seq ?_
              refine U_fr 47 [(0, .yld id), (2, .pb d1 0 0), (3, .fn (.func 102) [] [.pb d1 0 0]), (7, .pb d3 0 0), (15, .sim (p_1.blocks.map eBl) false), (16, .int .i64 (p_1.blocks.length : Int)), (17, .int .i64 x_1), (27, .sim (x1.code.map eIns) false), (28, .int .i64 (x1.code.length : Int)), (29, .int .i64 x_3)] rfl rfl rfl ?_
              obtain ⟨⟨r3, m5⟩, kr3, hr2⟩ := bndO hr2
              dsimp only at hr2
              obtain ⟨⟨b1, c5⟩, kb1, hr2⟩ := bndO hr2
              dsimp only at hr2
              refine U_cut (fun a' H' => Fi a' 47 [(0, .yld id), (2, .pb d1 0 0), (3, .fn (.func 102) [] [.pb d1 0 0]), (15, .sim (p_1.blocks.map eBl) false), (16, .int .i64 (p_1.blocks.length : Int)), (17, .int .i64 x_1), (27, .sim (x1.code.map eIns) false), (28, .int .i64 (x1.code.length : Int)), (29, .int .i64 x_3), (44, .bool b1)] ∧ HS F [pt d1 ⟨1, [[.yld id]]⟩, pt d3 ⟨10, [eIns x2]⟩, I c5] H') ?_ ?_
              · refine U_reg ?_
                rcases Bool.eq_false_or_eq_true (r3) with hb5 | hb5
                ·
                  have hx1 : (!r3) = false := by simp only [SQ, hb5, Bool.true_beq, Bool.false_beq, Bool.true_bne, Bool.false_bne, Bool.not_true, Bool.not_false]
                  rw [if_neg (by rw [hx1]; decide)] at kb1
                  obtain ⟨⟨r4, m6⟩, kr4, kb1⟩ := bndO kb1
                  dsimp only at kb1
                  replace kb1 := Option.some.inj kb1
                  obtain ⟨q1, q2⟩ := Prod.mk.inj kb1
                  clear kb1
                  subst q1
                  subst q2
                  simp only [SQ, ty141, s9.b 1 rfl, ty66, ty58, s9.b 0 rfl, sIns, hb1, hb2, hb3, hb4, hb5, Bool.true_beq, Bool.false_beq, Bool.true_bne, Bool.false_bne, Bool.not_true, Bool.not_false, n1, n2, n3, n4, n5, n6]
                  refine callYS (iv := fun x : Opd => .agg (eOpd x)) hY s9 2 rfl kr3 fun H10 s10 => ?_
                  simp only [SQ, ty66, ty23, s10.b 1 rfl, sIns, hb1, hb2, hb3, hb4, hb5, Bool.true_beq, Bool.false_beq, Bool.true_bne, Bool.false_bne, Bool.not_true, Bool.not_false, n1, n2, n3, n4, n5, n6]
                  refine callS (w_ir_Operands_1_1 hY kr4) (s10.sel [2, 0, 1] (by decide)) rfl ?_
                  rintro _ H11 _ ⟨rfl, rfl⟩ s11
                  simp only [SQ, hb1, hb2, hb3, hb4, hb5, Bool.true_beq, Bool.false_beq, Bool.true_bne, Bool.false_bne, Bool.not_true, Bool.not_false, n1, n2, n3, n4, n5, n6]
                  refine hold_intro ?_
                  exact ⟨⟨rfl, rfl, by first | rfl | simp only [SQ, hb1, hb2, hb3, hb4, hb5, Bool.true_beq, Bool.false_beq, Bool.true_bne, Bool.false_bne, Bool.not_true, Bool.not_false, n1, n2, n3, n4, n5, n6]⟩, s11.sel [0, 2, 1] (by decide)⟩
                ·
                  have hx2 : (!r3) = true := by simp only [SQ, hb5, Bool.true_beq, Bool.false_beq, Bool.true_bne, Bool.false_bne, Bool.not_true, Bool.not_false]
                  rw [if_pos hx2] at kb1
                  replace kb1 := Option.some.inj kb1
                  obtain ⟨q3, q4⟩ := Prod.mk.inj kb1
                  clear kb1
                  subst q3
                  subst q4
                  simp only [SQ, ty141, s9.b 1 rfl, ty66, ty58, s9.b 0 rfl, sIns, hb1, hb2, hb3, hb4, hb5, Bool.true_beq, Bool.false_beq, Bool.true_bne, Bool.false_bne, Bool.not_true, Bool.not_false, n1, n2, n3, n4, n5, n6]
                  refine callYS (iv := fun x : Opd => .agg (eOpd x)) hY s9 2 rfl kr3 fun H10 s10 => ?_
                  simp only [SQ, hb1, hb2, hb3, hb4, hb5, Bool.true_beq, Bool.false_beq, Bool.true_bne, Bool.false_bne, Bool.not_true, Bool.not_false, n1, n2, n3, n4, n5, n6]
                  refine hold_intro ?_
                  exact ⟨⟨rfl, rfl, by first | rfl | simp only [SQ, hb1, hb2, hb3, hb4, hb5, Bool.true_beq, Bool.false_beq, Bool.true_bne, Bool.false_bne, Bool.not_true, Bool.not_false, n1, n2, n3, n4, n5, n6]⟩, s10.sel [2, 1, 0] (by decide)⟩
              · rintro a3 H12 ⟨f3, s12⟩
                refine U_fi f3 ?_
                rcases Bool.eq_false_or_eq_true (b1) with hb8 | hb8
                ·
                  rw [if_pos hb8] at hr2
                  refine U_condT (by simp only [SQ, hb1, hb2, hb3, hb4, hb8, n1, n2, n3, n4, n5, n6]) ?_
                  refine U_ret ?_
                  replace hr2 := Option.some.inj hr2
                  subst hr2
                  replace hl4 : u3 = .r _ := hl4
                  subst hl4
                  replace hr1 := outE_r hr1
                  replace hr1 := Option.some.inj hr1
                  subst hr1
                  replace hl2 : u1 = .r _ := hl2
                  subst hl2
                  replace h := outE_r h
                  replace h := Option.some.inj h
                  subst h
                  exact ⟨.tup [], by simp only [ires, iress, Try.results101, SQ, List.toList_toArray, hb1, hb2, hb3, hb4, hb8, n1, n2, n3, n4, n5, n6], _, ⟨rfl, rfl⟩, s12.sel [2] (by decide)⟩
                ·
                  rw [if_neg (by rw [hb8]; decide)] at hr2
                  refine U_condF (by simp only [SQ, hb1, hb2, hb3, hb4, hb8, n1, n2, n3, n4, n5, n6]) ?_
                  refine U_skip ?_
                  refine U_reg ?_
                  simp only [SQ, hb1, hb2, hb3, hb4, hb8, n1, n2, n3, n4, n5, n6]
                  refine hold_intro ?_
                  replace hr2 := Option.some.inj hr2
                  subst hr2
                  exact ⟨(m4', IntKind.wrap .i64 (x_3 + 1), c5), m4_lt, hl4, ⟨rfl, rfl, by first | rfl | simp only [SQ, hb1, hb2, hb3, hb4, hb8, n1, n2, n3, n4, n5, n6]⟩, s12.sel [0, 2] (by decide)⟩
            ·
              rw [if_neg (by rw [hb4]; decide)] at hr2
              refine U_condF (by simp only [SQ, hb1, hb2, hb3, hb4, n1, n2, n3, n4, n5, n6]) ?_
              refine U_exit rfl ?_
              replace hr2 := Option.some.inj hr2
              subst hr2
              exact ⟨_, _, hl4, ⟨rfl, rfl, by first | rfl | simp only [SQ, hb1, hb2, hb3, hb4, n1, n2, n3, n4, n5, n6]⟩, s7⟩
          ·
            rintro a4 H13 ⟨x_4, c4, rfl, f4, s13⟩
            replace hr1 := outE_n hr1
            dsimp only at hr1
            refine U_fi f4 ?_
            refine U_reg ?_
            simp only [SQ, hb1, hb2, hb3, n1, n2, n3, n4, n5, n6]
            refine hold_intro ?_
            replace hr1 := Option.some.inj hr1
            subst hr1
            exact ⟨(m2', IntKind.wrap .i64 (x_1 + 1), c4), m2_lt, hl2, ⟨rfl, rfl, by first | rfl | simp only [SQ, hb1, hb2, hb3, n1, n2, n3, n4, n5, n6]⟩, s13⟩
      ·
        rw [if_neg (by rw [hb2]; decide)] at hr1
        refine U_condF (by simp only [SQ, hb1, hb2, n1, n2, n3, n4, n5, n6]) ?_
        refine U_exit rfl ?_
        replace hr1 := Option.some.inj hr1
        subst hr1
        exact ⟨_, _, hl2, ⟨rfl, rfl, by first | rfl | simp only [SQ, hb1, hb2, n1, n2, n3, n4, n5, n6]⟩, s3⟩
    ·
      rintro a5 H14 ⟨x_2, c2, rfl, f5, s14⟩
      replace h := outE_n h
      dsimp only at h
      replace h := Option.some.inj h
      subst h
      exact ⟨.tup [], by simp only [ires, iress, Try.results101, SQ, List.toList_toArray, hb1, n1, n2, n3, n4, n5, n6], _, ⟨rfl, rfl⟩, s14.sel [1] (by decide)⟩

theorem runL_append {σ α : Type} (y : σ → α → Option (Bool × σ)) : ∀ (xs ys : List α) (t : σ), runL y t (xs ++ ys) = (runL y t xs).bind fun r => if r.1 = true then runL y r.2 ys else some r
  | [], ys, t => by simp [runL]
  | x :: xs, ys, t => by
    simp only [List.cons_append, runL]
    cases h : y t x with
    | none => rfl
    | some r =>
      simp only [Option.bind_some]
      by_cases hr : r.1 = true
      · simp only [hr, if_true]; exact runL_append y xs ys r.2
      · simp [hr]
theorem wrap_succ {k : Nat} (h : k < 4294967296) : IntKind.wrap .i64 ((k : Int) + 1) = ((k + 1 : Nat) : Int) := by
  rw [wrap_in (by omega) (by omega)]; rfl
theorem idx_at {α : Type} {xs : List α} {k : Nat} (h : k < xs.length) : idx xs (k : Int) = some xs[k] := by
  unfold idx
  rw [if_pos (by omega), Int.toNat_natCast, List.getElem?_eq_getElem h]
theorem runL_false {σ α : Type} {y : σ → α → Option (Bool × σ)} {s : Bool × σ} {t : σ} {x : α} : yl y (true, t) x = (y t x).map fun r => (r.1, r) := rfl

-- the operands of a function, handed out
theorem ir_all_loop {σ : Type} (y : σ → Opd → Option (Bool × σ)) (fuel : Nat) (xs : List Opd) (hl : xs.length < 4294967296) : ∀ (m k : Nat) (t : σ), k ≤ xs.length → xs.length - k < m →
    loopE m (fun s => p_ir_Operands_1_1_b1 fuel y xs s.1 s.2) ((k : Int), ((true, t) : Bool × σ)) = (runL y t (xs.drop k)).map fun r => if r.1 = true then .n ((xs.length : Int), r) else .r (false, r)
  | 0, k, t, _, h => by omega
  | m + 1, k, t, hk, h => by
    rw [loopE]
    unfold p_ir_Operands_1_1_b1
    by_cases hlt : k < xs.length
    · have hi : decide ((k : Int) < (xs.length : Int)) = true := decide_eq_true (by omega)
      simp only [hi, if_true, idx_at hlt, Option.bind_some]
      rw [List.drop_eq_getElem_cons hlt]
      simp only [runL, yl, if_true]
      cases hy : y t xs[k] with
      | none => rfl
      | some r =>
        obtain ⟨b, t'⟩ := r
        cases b with
        | false => simp
        | true =>
          simp only [Option.map_some, Option.bind_some, Bool.not_true, Bool.false_eq_true, if_false, if_true]
          rw [wrap_succ (by omega)]
          exact ir_all_loop y fuel xs hl m (k + 1) t' (by omega) (by omega)
    · have hi : decide ((k : Int) < (xs.length : Int)) = false := decide_eq_false (by omega)
      simp only [hi, Bool.false_eq_true, if_false, Option.bind_some]
      have : xs.length = k := by omega
      rw [List.drop_eq_nil_of_le (by omega), this]
      simp [runL]
theorem ir_all {σ : Type} (y : σ → Opd → Option (Bool × σ)) (fuel : Nat) (xs : List Opd) (hl : xs.length < 4294967296) (hf : xs.length < fuel) (t : σ) : p_ir_Operands_1_1 fuel y xs () (true, t) = (runL y t xs).map fun r => (r.1, r) := by
  unfold p_ir_Operands_1_1
  have := ir_all_loop y fuel xs hl fuel 0 t (by omega) (by omega)
  simp only [Int.natCast_zero, List.drop_zero] at this
  rw [show ((0 : Int), ((true, t) : Bool × σ)) = (((0 : Nat) : Int), ((true, t) : Bool × σ)) from rfl] at *
  rw [this]
  cases runL y t xs with
  | none => rfl
  | some r =>
    obtain ⟨b, t'⟩ := r
    cases b <;> rfl
theorem ir_code_loop {σ : Type} (y : σ → Opd → Option (Bool × σ)) (fuel : Nat) (b : Bl) (hl : b.code.length < 4294967296) (ha : ∀ i ∈ b.code, i.args.length < 4294967296 ∧ i.args.length < fuel) : ∀ (m k : Nat) (t : σ), k ≤ b.code.length → b.code.length - k < m →
    loopE m (fun s => p_ir_Operands_1_b2 fuel y b s.1 s.2) ((k : Int), ((true, t) : Bool × σ)) = (runL y t ((b.code.drop k).flatMap fun i => i.dst :: i.args)).map fun r => if r.1 = true then .n ((b.code.length : Int), r) else .r (.r r)
  | 0, k, t, _, h => by omega
  | m + 1, k, t, hk, h => by
    rw [loopE]
    unfold p_ir_Operands_1_b2
    by_cases hlt : k < b.code.length
    · have hi : decide ((k : Int) < (b.code.length : Int)) = true := decide_eq_true (by omega)
      simp only [hi, if_true, idx_at hlt, Option.bind_some]
      rw [List.drop_eq_getElem_cons hlt]
      simp only [List.flatMap_cons, List.cons_append, runL, yl, if_true]
      cases hy : y t b.code[k].dst with
      | none => rfl
      | some r =>
        obtain ⟨c, t'⟩ := r
        cases c with
        | false => simp
        | true =>
          obtain ⟨h1, h2⟩ := ha b.code[k] (List.getElem_mem hlt)
          simp only [Option.map_some, Option.bind_some, Bool.not_true, Bool.false_eq_true, if_false, if_true]
          rw [ir_all y fuel _ h1 h2, runL_append]
          cases runL y t' b.code[k].args with
          | none => rfl
          | some r =>
            obtain ⟨c, t2⟩ := r
            cases c with
            | false => simp
            | true =>
              simp only [Option.map_some, Option.bind_some, Bool.not_true, Bool.false_eq_true, if_false, if_true]
              rw [wrap_succ (by omega)]
              exact ir_code_loop y fuel b hl ha m (k + 1) t2 (by omega) (by omega)
    · have hi : decide ((k : Int) < (b.code.length : Int)) = false := decide_eq_false (by omega)
      simp only [hi, Bool.false_eq_true, if_false, Option.bind_some]
      have : b.code.length = k := by omega
      rw [List.drop_eq_nil_of_le (by omega), this]
      simp [runL]
theorem ir_blocks_loop {σ : Type} (y : σ → Opd → Option (Bool × σ)) (fuel : Nat) (f : Fnc) (hl : f.blocks.length < 4294967296) (ha : ∀ b ∈ f.blocks, b.ins.length < 4294967296 ∧ b.ins.length < fuel ∧ b.code.length < 4294967296 ∧ b.code.length < fuel ∧ ∀ i ∈ b.code, i.args.length < 4294967296 ∧ i.args.length < fuel) :
    ∀ (m k : Nat) (t : σ), k ≤ f.blocks.length → f.blocks.length - k < m →
    loopE m (fun s => p_ir_Operands_1_b1 fuel y f s.1 s.2) ((k : Int), ((true, t) : Bool × σ)) = (runL y t ((f.blocks.drop k).flatMap fun b => b.ins ++ b.code.flatMap fun i => i.dst :: i.args)).map fun r => if r.1 = true then .n ((f.blocks.length : Int), r) else .r r
  | 0, k, t, _, h => by omega
  | m + 1, k, t, hk, h => by
    rw [loopE]
    unfold p_ir_Operands_1_b1
    by_cases hlt : k < f.blocks.length
    · have hi : decide ((k : Int) < (f.blocks.length : Int)) = true := decide_eq_true (by omega)
      simp only [hi, if_true, idx_at hlt, Option.bind_some]
      obtain ⟨h1, h2, h3, h4, h5⟩ := ha f.blocks[k] (List.getElem_mem hlt)
      rw [List.drop_eq_getElem_cons hlt, ir_all y fuel _ h1 h2]
      simp only [List.flatMap_cons, List.append_assoc]
      rw [runL_append]
      cases runL y t f.blocks[k].ins with
      | none => rfl
      | some r =>
        obtain ⟨c, t'⟩ := r
        cases c with
        | false => simp
        | true =>
          simp only [Option.map_some, Option.bind_some, Bool.not_true, Bool.false_eq_true, if_false, if_true]
          have := ir_code_loop y fuel f.blocks[k] h3 h5 fuel 0 t' (by omega) (by omega)
          simp only [Int.natCast_zero, List.drop_zero] at this
          rw [this, runL_append]
          cases runL y t' (f.blocks[k].code.flatMap fun i => i.dst :: i.args) with
          | none => rfl
          | some r =>
            obtain ⟨c, t2⟩ := r
            cases c with
            | false => simp [bindE]
            | true =>
              simp only [Option.map_some, Option.bind_some, if_true, bindE]
              rw [wrap_succ (by omega)]
              exact ir_blocks_loop y fuel f hl ha m (k + 1) t2 (by omega) (by omega)
    · have hi : decide ((k : Int) < (f.blocks.length : Int)) = false := decide_eq_false (by omega)
      simp only [hi, Bool.false_eq_true, if_false, Option.bind_some]
      have : f.blocks.length = k := by omega
      rw [List.drop_eq_nil_of_le (by omega), this]
      simp [runL]
theorem it_ir_Operands_1 {fuel : Nat} {f : Fnc} {xs : List Opd} (h : l_ir_Operands fuel f = some xs) : IterS Try.prog 101 [] [.pim [eFnc f] 0 0] [] (fun x : Opd => .agg (eOpd x)) xs := by
  unfold l_ir_Operands at h
  split at h
  · rename_i c
    cases h
    obtain ⟨c1, c2, c3, c4, c5⟩ := c
    intro σ y t e I id hr hY F H hs
    have key : p_ir_Operands_1 fuel y f (true, t) = some e := by
      unfold p_ir_Operands_1
      rw [ir_all y fuel _ c1 c2]
      rw [opsL, runL_append] at hr
      cases h1 : runL y t f.params with
      | none => rw [h1] at hr; cases hr
      | some r =>
        obtain ⟨b, t'⟩ := r
        rw [h1] at hr
        cases b with
        | false => simpa using hr
        | true =>
          simp only [Option.bind_some, if_true] at hr
          simp only [Option.map_some, Option.bind_some, Bool.not_true, Bool.false_eq_true, if_false]
          have := ir_blocks_loop y fuel f c3 c5 fuel 0 t' (by omega) (by omega)
          simp only [Int.natCast_zero, List.drop_zero] at this
          rw [this, hr]
          obtain ⟨b, t2⟩ := e
          cases b <;> rfl
    refine (w_ir_Operands_1 hY key F H hs).mono ?_
    rintro v H' ⟨L', ⟨_, rfl⟩, h⟩
    exact h
  · cases h

theorem w_slices_Index_int_int {fuel : Nat} {s_1 : List Int} {v_1 : Int} {r0_ : Int} (h : p_slices_Index_int_int fuel s_1 v_1 = some r0_) : Pure1 Try.prog 128 [.sim (s_1.map eInt) false, .int .i64 v_1] (.int .i64 r0_) := by
  refine Pure1_S (all_cl (cl_map cl_eInt s_1) (all_cl (closed_int _ _) all_cl0)) fun F H s0 => ?_
  refine U_call 0 Try.func128 rfl (by kernel_rfl) (by simp [Try.ntmps128]) ?_
  rw [Try.ntmps128]
  refine U_fr 19 [(0, .sim (s_1.map eInt) false), (1, .int .i64 v_1)] rfl rfl rfl ?_
  unfold p_slices_Index_int_int at h
  refine U_seq ?_
  refine U_reg ?_
  simp only [SQ, n1, n2, n3, n4, n5, n6]
  refine hold_intro ?_
  refine U_seq ?_
  refine U_seq ?_
  refine U_reg ?_
  simp only [SQ, len_sim ty37 rfl, n1, n2, n3, n4, n5, n6]
  refine hold_intro ?_
  refine U_fr 19 [(0, .sim (s_1.map eInt) false), (1, .int .i64 v_1), (7, .int .i64 (s_1.length : Int)), (8, .int .i64 0)] rfl rfl rfl ?_
  obtain ⟨u1, he1, h⟩ := bndE h
  refine U_cut (fun a' H' => ∃ x_1 : Int, u1 = .n x_1 ∧ Fi a' 19 [] ∧ HS F [] H') (U_block (U_loop (fun z_ a' H' => match z_ with | (m1, x_1) => loopE m1 (fun s => p_slices_Index_int_int_b1 fuel s_1 v_1 s) x_1 = some u1 ∧ Fi a' 19 [(0, .sim (s_1.map eInt) false), (1, .int .i64 v_1), (7, .int .i64 (s_1.length : Int)), (8, .int .i64 x_1)] ∧ HS F [] H' : (Nat × Int) → Fr → Heap → Prop) (fun z_ : Nat × Int => z_.1) (fuel, 0) ?_ ?_)) ?_
  · exact ⟨he1, ⟨rfl, rfl, rfl⟩, s0⟩
  ·
    rintro ⟨m1, x_1⟩ a1 H1 ⟨hf1, f1, s1⟩
    refine U_fi f1 ?_
    obtain ⟨m1', m1_lt, u2, hr1, hl2⟩ := loopE_step hf1
    replace hr1 : p_slices_Index_int_int_b1 fuel s_1 v_1 x_1 = some u2 := hr1
    unfold p_slices_Index_int_int_b1 at hr1
    refine U_seq ?_
    refine U_reg ?_
    simp only [SQ, n1, n2, n3, n4, n5, n6]
    refine hold_intro ?_
    refine U_seq ?_
    rcases Bool.eq_false_or_eq_true (decide (x_1 < (s_1.length : Int))) with hb1 | hb1
    ·
      rw [if_pos hb1] at hr1
      refine U_condT (by simp only [SQ, hb1, n1, n2, n3, n4, n5, n6]) ?_
      refine U_skip ?_
      refine U_seq ?_
      refine U_block ?_
      refine U_seq ?_
      refine U_reg ?_
      simp only [SQ, hb1, n1, n2, n3, n4, n5, n6]
      refine hold_intro ?_
      refine U_seq ?_
      obtain ⟨x1, kx1, hr1⟩ := bndO hr1
      refine U_reg ?_
      simp only [SQ, ty37, ty3, iia_sim (f := eInt) ty37 rfl ty3 kx1 rfl, row_sim (f := eInt) kx1, hb1, n1, n2, n3, n4, n5, n6]
      refine hold_intro ?_
      rcases Bool.eq_false_or_eq_true (decide (v_1 = x1)) with hb2 | hb2
      ·
        rw [if_pos hb2] at hr1
        refine U_condT (by simp only [SQ, hb1, hb2, n1, n2, n3, n4, n5, n6]) ?_
        refine U_seq ?_
        refine U_fr 19 [(5, .int .i64 x_1)] rfl rfl rfl ?_
        refine U_reg ?_
        simp only [SQ, hb1, hb2, n1, n2, n3, n4, n5, n6]
        refine hold_intro ?_
        refine U_ret ?_
        replace hr1 := Option.some.inj hr1
        subst hr1
        replace hl2 : u1 = .r _ := hl2
        subst hl2
        replace h := outE_r h
        replace h := Option.some.inj h
        subst h
        refine ⟨.int .i64 x_1, by simp only [ires, iress, Try.results128, SQ, List.toList_toArray, hb1, hb2, n1, n2, n3, n4, n5, n6], ?_⟩
        exact .cl (closed_int _ _)
      ·
        rw [if_neg (by rw [hb2]; decide)] at hr1
        refine U_condF (by simp only [SQ, hb1, hb2, n1, n2, n3, n4, n5, n6]) ?_
        refine U_skip ?_
        refine U_reg ?_
        simp only [SQ, hb1, hb2, n1, n2, n3, n4, n5, n6]
        refine hold_intro ?_
        replace hr1 := Option.some.inj hr1
        subst hr1
        exact ⟨(m1', IntKind.wrap .i64 (x_1 + 1)), m1_lt, hl2, ⟨rfl, rfl, by first | rfl | simp only [SQ, hb1, hb2, n1, n2, n3, n4, n5, n6]⟩, s1⟩
    ·
      rw [if_neg (by rw [hb1]; decide)] at hr1
      refine U_condF (by simp only [SQ, hb1, n1, n2, n3, n4, n5, n6]) ?_
      refine U_exit rfl ?_
      replace hr1 := Option.some.inj hr1
      subst hr1
      exact ⟨_, hl2, ⟨rfl, rfl, by first | rfl | simp only [SQ, hb1, n1, n2, n3, n4, n5, n6]⟩, s1⟩
  ·
    rintro a2 H2 ⟨x_2, rfl, f2, s2⟩
    replace h := outE_n h
    refine U_fi f2 ?_
    refine U_seq ?_
    refine U_reg ?_
    simp only [SQ, n1, n2, n3, n4, n5, n6]
    refine hold_intro ?_
    refine U_ret ?_
    replace h := Option.some.inj h
    subst h
    refine ⟨.int .i64 (-1), by simp only [ires, iress, Try.results128, SQ, List.toList_toArray, n1, n2, n3, n4, n5, n6], ?_⟩
    exact .cl (closed_int _ _)

theorem w_slices_Contains_int_int {fuel : Nat} {s_1 : List Int} {v_1 : Int} {r0_ : Bool} (h : p_slices_Contains_int_int fuel s_1 v_1 = some r0_) : Pure1 Try.prog 77 [.sim (s_1.map eInt) false, .int .i64 v_1] (.bool r0_) := by
  refine Pure1_S (all_cl (cl_map cl_eInt s_1) (all_cl (closed_int _ _) all_cl0)) fun F H s0 => ?_
  refine U_call 0 Try.func77 rfl (by kernel_rfl) (by simp [Try.ntmps77]) ?_
  rw [Try.ntmps77]
  refine U_fr 9 [(0, .sim (s_1.map eInt) false), (1, .int .i64 v_1)] rfl rfl rfl ?_
  unfold p_slices_Contains_int_int at h
  refine U_seq ?_
  refine U_reg ?_
  simp only [SQ, n1, n2, n3, n4, n5, n6]
  refine hold_intro ?_
  refine U_seq ?_
  obtain ⟨r1, kr1, h⟩ := bndO h
  refine U_reg ?_
  simp only [SQ, n1, n2, n3, n4, n5, n6]
  refine callP (w_slices_Index_int_int kr1) ?_
  simp only [SQ, n1, n2, n3, n4, n5, n6]
  refine hold_intro ?_
  refine U_ret ?_
  replace h := Option.some.inj h
  subst h
  refine ⟨.bool (decide (0 ≤ r1)), by simp only [ires, iress, Try.results77, SQ, List.toList_toArray, n1, n2, n3, n4, n5, n6], ?_⟩
  exact .cl (closed_bool _)

theorem w_ir_Uses {fuel : Nat} {i_1 : Ins} {r0_ : List Int} (h : p_ir_Uses fuel i_1 = some r0_) : Pure1 Try.prog 50 [.agg (eIns i_1)] (.sim (r0_.map eInt) false) := by
  refine Pure1_S (all_cl (cl_agg (cl_eIns _)) all_cl0) fun F H s0 => ?_
  refine U_call 0 Try.func50 rfl (by kernel_rfl) (by simp [Try.ntmps50]) ?_
  rw [Try.ntmps50]
  refine U_fr 33 [(0, .agg (eIns i_1))] rfl rfl rfl ?_
  unfold p_ir_Uses at h
  refine U_seq ?_
  refine U_reg ?_
  simp only [SQ, ty66, sIns, n1, n2, n3, n4, n5, n6]
  refine N_box s0 rfl fun d1 H1 s1 => ?_
  simp only [SQ, n1, n2, n3, n4, n5, n6]
  refine hold_intro ?_
  refine U_seq ?_
  refine U_reg ?_
  simp only [SQ, n1, n2, n3, n4, n5, n6]
  refine hold_intro ?_
  refine U_seq ?_
  refine U_seq ?_
  refine U_reg ?_
  simp only [SQ, ty66, ty23, s1.b 0 rfl, sIns, len_sim ty23 rfl, n1, n2, n3, n4, n5, n6]
  refine hold_intro ?_
  refine U_fr 33 [(3, .nils), (9, .sim (i_1.args.map eOpd) false), (10, .int .i64 (i_1.args.length : Int)), (11, .int .i64 0)] rfl rfl rfl ?_
  obtain ⟨u1, he1, h⟩ := bndE h
  have s3 := s1.nil' R3i
  refine U_cut (fun a' H' => ∃ x_1 : Int, ∃ out_1 : List Int, u1 = .n (x_1, out_1) ∧ ∃ v1 : IV, Fi a' 33 [(3, v1)] ∧ HS F [sl R3i v1 out_1] H') (U_block (U_loop (fun z_ a' H' => match z_ with | (m1, x_1, out_1) => loopE m1 (fun s => p_ir_Uses_b1 fuel i_1 s.1 s.2) (x_1, out_1) = some u1 ∧ ∃ v1 : IV, Fi a' 33 [(3, v1), (9, .sim (i_1.args.map eOpd) false), (10, .int .i64 (i_1.args.length : Int)), (11, .int .i64 x_1)] ∧ HS F [sl R3i v1 out_1] H' : (Nat × Int × (List Int)) → Fr → Heap → Prop) (fun z_ : Nat × Int × (List Int) => z_.1) (fuel, 0, ([] : List Int)) ?_ ?_)) ?_
  · exact ⟨he1, _, ⟨rfl, rfl, rfl⟩, s3.sel [0] (by decide)⟩
  ·
    rintro ⟨m1, x_1, out_1⟩ a1 H2 ⟨hf1, v1, f1, s4⟩
    refine U_fi f1 ?_
    obtain ⟨m1', m1_lt, u2, hr1, hl2⟩ := loopE_step hf1
    replace hr1 : p_ir_Uses_b1 fuel i_1 x_1 out_1 = some u2 := hr1
    unfold p_ir_Uses_b1 at hr1
    refine U_seq ?_
    refine U_reg ?_
    simp only [SQ, n1, n2, n3, n4, n5, n6]
    refine hold_intro ?_
    refine U_seq ?_
    rcases Bool.eq_false_or_eq_true (decide (x_1 < (i_1.args.length : Int))) with hb1 | hb1
    ·
      rw [if_pos hb1] at hr1
      refine U_condT (by simp only [SQ, hb1, n1, n2, n3, n4, n5, n6]) ?_
      refine U_skip ?_
      refine U_seq ?_
      refine U_fr 33 [(3, v1), (9, .sim (i_1.args.map eOpd) false), (10, .int .i64 (i_1.args.length : Int)), (11, .int .i64 x_1)] rfl rfl rfl ?_
      obtain ⟨out_3, kj1, hr1⟩ := bndO hr1
      refine U_cut (fun a' H' => ∃ v3 : IV, Fi a' 33 [(3, v3), (9, .sim (i_1.args.map eOpd) false), (10, .int .i64 (i_1.args.length : Int)), (11, .int .i64 x_1)] ∧ HS F [sl R3i v3 out_3] H') ?_ ?_
      ·
        refine U_block ?_
        refine U_seq ?_
        obtain ⟨x1, kx1, kj1⟩ := bndO kj1
        refine U_reg ?_
        simp only [SQ, ty23, ty58, iia_sim (f := eOpd) ty23 rfl ty58 kx1 rfl, row_sim (f := eOpd) kx1, sOpd, hb1, n1, n2, n3, n4, n5, n6]
        refine N_box s4 rfl fun d2 H4 s6 => ?_
        simp only [SQ, ty58, sOpd, splice_all', s6.b 0 rfl, hb1, n1, n2, n3, n4, n5, n6]
        refine N_put 0 s6 rfl fun H5 s7 => ?_
        simp only [SQ, hb1, n1, n2, n3, n4, n5, n6]
        refine hold_intro ?_
        refine U_seq ?_
        obtain ⟨⟨r1, r2⟩, kr1, kj1⟩ := bndO kj1
        dsimp only at kj1
        refine U_reg ?_
        simp only [SQ, ty58, s7.b 0 rfl, sOpd, hb1, n1, n2, n3, n4, n5, n6]
        refine callP (w_ir_Value kr1) ?_
        simp only [SQ, hb1, n1, n2, n3, n4, n5, n6]
        refine hold_intro ?_
        refine U_seq ?_
        refine U_fr 33 [(3, v1), (6, .int .i64 r1), (7, .bool r2), (9, .sim (i_1.args.map eOpd) false), (10, .int .i64 (i_1.args.length : Int)), (11, .int .i64 x_1)] rfl rfl rfl ?_
        obtain ⟨b1, kb1, kj1⟩ := bndO kj1
        refine U_cut (fun a' H' => Fi a' 33 [(3, v1), (6, .int .i64 r1), (9, .sim (i_1.args.map eOpd) false), (10, .int .i64 (i_1.args.length : Int)), (11, .int .i64 x_1), (26, .bool b1)] ∧ H5 = H') ?_ ?_
        · refine U_reg ?_
          rcases Bool.eq_false_or_eq_true (r2) with hb2 | hb2
          ·
            have hx1 := hb2
            rw [if_pos hx1] at kb1
            obtain ⟨r3, kr3, kb1⟩ := bndO kb1
            have hq1 := (Option.some.inj kb1).symm
            simp only [SQ, hb1, hb2, hq1, n1, n2, n3, n4, n5, n6]
            refine callLd (w_slices_Contains_int_int kr3) (.cons (s7.fzS 1 rfl) (.cons (.cl (closed_int _ _)) (.nil))) (flat_bool _) ?_
            simp only [SQ, hb1, hb2, hq1, n1, n2, n3, n4, n5, n6]
            refine hold_intro ?_
            exact ⟨⟨rfl, rfl, by first | rfl | simp only [SQ, hb1, hb2, hq1, n1, n2, n3, n4, n5, n6]⟩, rfl⟩
          ·
            have hx2 := hb2
            rw [if_neg (by rw [hx2]; decide)] at kb1
            have hq2 := (Option.some.inj kb1).symm
            simp only [SQ, hb1, hb2, hq2, n1, n2, n3, n4, n5, n6]
            refine hold_intro ?_
            exact ⟨⟨rfl, rfl, by first | rfl | simp only [SQ, hb1, hb2, hq2, n1, n2, n3, n4, n5, n6]⟩, rfl⟩
        · rintro a3 _ ⟨f3, rfl⟩
          refine U_fi f3 ?_
          rcases Bool.eq_false_or_eq_true (b1) with hb3 | hb3
          ·
            rw [if_pos hb3] at kj1
            refine U_condT (by simp only [SQ, hb1, hb3, n1, n2, n3, n4, n5, n6]) ?_
            obtain ⟨l1, kl1, kj1⟩ := bndO kj1
            refine U_reg ?_
            simp only [SQ, ty37, ty3, hb1, hb3, n1, n2, n3, n4, n5, n6]
            refine N_sl ([r1] : List Int) R3i s7 rfl rfl (by first | rfl | simp only [SQ]) (by first | rfl | simp only [List.length_map, List.length_replicate]) (zip_flat rfl) ?_
            intro v4 H7 s9
            simp only [SQ, ty37, ty3, hb1, hb3, n1, n2, n3, n4, n5, n6]
            refine N_app (xs := out_1) (ys := ([r1] : List Int)) 2 s9 rfl rfl ty37 rfl ty37 rfl ty3 rfl rfl rfl (by decide) rfl (s9.srowsi 0 rfl) kl1 (fun _ _ e => by cases e) ?_
            intro v5 H8 s10
            simp only [SQ, hb1, hb3, n1, n2, n3, n4, n5, n6]
            refine hold_intro ?_
            replace kj1 := Option.some.inj kj1
            subst kj1
            exact ⟨_, ⟨rfl, rfl, by first | rfl | simp only [SQ, hb1, hb3, n1, n2, n3, n4, n5, n6]⟩, s10.sel [0] (by decide)⟩
          ·
            rw [if_neg (by rw [hb3]; decide)] at kj1
            refine U_condF (by simp only [SQ, hb1, hb3, n1, n2, n3, n4, n5, n6]) ?_
            refine U_skip ?_
            replace kj1 := Option.some.inj kj1
            subst kj1
            exact ⟨_, ⟨rfl, rfl, by first | rfl | simp only [SQ, hb1, hb3, n1, n2, n3, n4, n5, n6]⟩, s7.sel [1] (by decide)⟩
      ·
        rintro a2 H3 ⟨v3, f2, s5⟩
        refine U_fi f2 ?_
        refine U_reg ?_
        simp only [SQ, hb1, n1, n2, n3, n4, n5, n6]
        refine hold_intro ?_
        replace hr1 := Option.some.inj hr1
        subst hr1
        exact ⟨(m1', IntKind.wrap .i64 (x_1 + 1), out_3), m1_lt, hl2, _, ⟨rfl, rfl, by first | rfl | simp only [SQ, hb1, n1, n2, n3, n4, n5, n6]⟩, s5⟩
    ·
      rw [if_neg (by rw [hb1]; decide)] at hr1
      refine U_condF (by simp only [SQ, hb1, n1, n2, n3, n4, n5, n6]) ?_
      refine U_exit rfl ?_
      replace hr1 := Option.some.inj hr1
      subst hr1
      exact ⟨_, _, hl2, _, ⟨rfl, rfl, by first | rfl | simp only [SQ, hb1, n1, n2, n3, n4, n5, n6]⟩, s4⟩
  ·
    rintro a4 H9 ⟨x_2, out_2, rfl, v2, f4, s11⟩
    replace h := outE_n h
    dsimp only at h
    refine U_fi f4 ?_
    refine U_seq ?_
    refine U_reg ?_
    simp only [SQ, n1, n2, n3, n4, n5, n6]
    refine hold_intro ?_
    refine U_ret ?_
    replace h := Option.some.inj h
    subst h
    refine ⟨v2, by simp only [ires, iress, Try.results50, SQ, List.toList_toArray, n1, n2, n3, n4, n5, n6], ?_⟩
    exact s11.fzS 0 rfl

theorem w_ir_Find_1 {fuel : Nat} {b_1 : Bl} {p_1 : ByteArray} {r0_ : Bool} (h : p_ir_Find_1 fuel b_1 p_1 = some r0_) : Pure1 Try.prog 109 [.agg (eBl b_1), .pim [eStr p_1] 0 0] (.bool r0_) := by
  refine Pure1_S (all_cl (cl_agg (cl_eBl _)) (all_cl (cl_pim1 cl_eStr _) all_cl0)) fun F H s0 => ?_
  refine U_call 0 Try.func109 rfl (by kernel_rfl) (by simp [Try.ntmps109]) ?_
  rw [Try.ntmps109]
  refine U_fr 8 [(0, .agg (eBl b_1)), (1, .pim [eStr p_1] 0 0)] rfl rfl rfl ?_
  unfold p_ir_Find_1 at h
  refine U_seq ?_
  refine U_reg ?_
  simp only [SQ, ty63, sBl, n1, n2, n3, n4, n5, n6]
  refine N_box s0 rfl fun d1 H1 s1 => ?_
  simp only [SQ, n1, n2, n3, n4, n5, n6]
  refine hold_intro ?_
  refine U_seq ?_
  refine U_reg ?_
  simp only [SQ, ty63, ty9, s1.b 0 rfl, sBl, n1, n2, n3, n4, n5, n6]
  refine hold_intro ?_
  refine U_ret ?_
  replace h := Option.some.inj h
  subst h
  refine ⟨.bool (decide (b_1.label = p_1)), by simp only [ires, iress, Try.results109, SQ, List.toList_toArray, n1, n2, n3, n4, n5, n6], ?_⟩
  exact .cl (closed_bool _)

theorem w_slices_IndexFunc_api_Block_api_Block_at_ir_Find_1 {fuel : Nat} {s_1 : List Bl} {w1 : ByteArray} {r0_ : Int} (h : p_slices_IndexFunc_api_Block_api_Block_at_ir_Find_1 fuel s_1 w1 = some r0_) : Pure1 Try.prog 108 [.sim (s_1.map eBl) false, .fn (.func 109) [] [.pim [eStr w1] 0 0]] (.int .i64 r0_) := by
  refine Pure1_S (all_cl (cl_map cl_eBl s_1) (all_cl (closed_fnc (all_cl0) ((all_cl (cl_pim1 cl_eStr _) all_cl0))) all_cl0)) fun F H s0 => ?_
  refine U_call 0 Try.func108 rfl (by kernel_rfl) (by simp [Try.ntmps108]) ?_
  rw [Try.ntmps108]
  refine U_fr 19 [(0, .sim (s_1.map eBl) false), (1, .fn (.func 109) [] [.pim [eStr w1] 0 0])] rfl rfl rfl ?_
  unfold p_slices_IndexFunc_api_Block_api_Block_at_ir_Find_1 at h
  refine U_seq ?_
  refine U_reg ?_
  simp only [SQ, n1, n2, n3, n4, n5, n6]
  refine hold_intro ?_
  refine U_seq ?_
  refine U_seq ?_
  refine U_reg ?_
  simp only [SQ, len_sim ty24 rfl, n1, n2, n3, n4, n5, n6]
  refine hold_intro ?_
  refine U_fr 19 [(0, .sim (s_1.map eBl) false), (1, .fn (.func 109) [] [.pim [eStr w1] 0 0]), (7, .int .i64 (s_1.length : Int)), (8, .int .i64 0)] rfl rfl rfl ?_
  obtain ⟨u1, he1, h⟩ := bndE h
  refine U_cut (fun a' H' => ∃ x_1 : Int, u1 = .n x_1 ∧ Fi a' 19 [(1, .fn (.func 109) [] [.pim [eStr w1] 0 0])] ∧ HS F [] H') (U_block (U_loop (fun z_ a' H' => match z_ with | (m1, x_1) => loopE m1 (fun s => p_slices_IndexFunc_api_Block_api_Block_at_ir_Find_1_b1 fuel s_1 w1 s) x_1 = some u1 ∧ Fi a' 19 [(0, .sim (s_1.map eBl) false), (1, .fn (.func 109) [] [.pim [eStr w1] 0 0]), (7, .int .i64 (s_1.length : Int)), (8, .int .i64 x_1)] ∧ HS F [] H' : (Nat × Int) → Fr → Heap → Prop) (fun z_ : Nat × Int => z_.1) (fuel, 0) ?_ ?_)) ?_
  · exact ⟨he1, ⟨rfl, rfl, rfl⟩, s0⟩
  ·
    rintro ⟨m1, x_1⟩ a1 H1 ⟨hf1, f1, s1⟩
    refine U_fi f1 ?_
    obtain ⟨m1', m1_lt, u2, hr1, hl2⟩ := loopE_step hf1
    replace hr1 : p_slices_IndexFunc_api_Block_api_Block_at_ir_Find_1_b1 fuel s_1 w1 x_1 = some u2 := hr1
    unfold p_slices_IndexFunc_api_Block_api_Block_at_ir_Find_1_b1 at hr1
    refine U_seq ?_
    refine U_reg ?_
    simp only [SQ, n1, n2, n3, n4, n5, n6]
    refine hold_intro ?_
    refine U_seq ?_
    rcases Bool.eq_false_or_eq_true (decide (x_1 < (s_1.length : Int))) with hb1 | hb1
    ·
      rw [if_pos hb1] at hr1
      refine U_condT (by simp only [SQ, hb1, n1, n2, n3, n4, n5, n6]) ?_
      refine U_skip ?_
      refine U_seq ?_
      refine U_block ?_
      refine U_seq ?_
      refine U_reg ?_
      simp only [SQ, hb1, n1, n2, n3, n4, n5, n6]
      refine hold_intro ?_
      refine U_seq ?_
      obtain ⟨x1, kx1, hr1⟩ := bndO hr1
      obtain ⟨r1, kr1, hr1⟩ := bndO hr1
      refine U_reg ?_
      simp only [SQ, ty24, ty63, iia_sim (f := eBl) ty24 rfl ty63 kx1 rfl, row_sim (f := eBl) kx1, sBl, hb1, n1, n2, n3, n4, n5, n6]
      refine callP (w_ir_Find_1 kr1) ?_
      simp only [SQ, hb1, n1, n2, n3, n4, n5, n6]
      refine hold_intro ?_
      rcases Bool.eq_false_or_eq_true (r1) with hb2 | hb2
      ·
        rw [if_pos hb2] at hr1
        refine U_condT (by simp only [SQ, hb1, hb2, n1, n2, n3, n4, n5, n6]) ?_
        refine U_seq ?_
        refine U_fr 19 [(1, .fn (.func 109) [] [.pim [eStr w1] 0 0]), (5, .int .i64 x_1)] rfl rfl rfl ?_
        refine U_reg ?_
        simp only [SQ, hb1, hb2, n1, n2, n3, n4, n5, n6]
        refine hold_intro ?_
        refine U_ret ?_
        replace hr1 := Option.some.inj hr1
        subst hr1
        replace hl2 : u1 = .r _ := hl2
        subst hl2
        replace h := outE_r h
        replace h := Option.some.inj h
        subst h
        refine ⟨.int .i64 x_1, by simp only [ires, iress, Try.results108, SQ, List.toList_toArray, hb1, hb2, n1, n2, n3, n4, n5, n6], ?_⟩
        exact .cl (closed_int _ _)
      ·
        rw [if_neg (by rw [hb2]; decide)] at hr1
        refine U_condF (by simp only [SQ, hb1, hb2, n1, n2, n3, n4, n5, n6]) ?_
        refine U_skip ?_
        refine U_reg ?_
        simp only [SQ, hb1, hb2, n1, n2, n3, n4, n5, n6]
        refine hold_intro ?_
        replace hr1 := Option.some.inj hr1
        subst hr1
        exact ⟨(m1', IntKind.wrap .i64 (x_1 + 1)), m1_lt, hl2, ⟨rfl, rfl, by first | rfl | simp only [SQ, hb1, hb2, n1, n2, n3, n4, n5, n6]⟩, s1⟩
    ·
      rw [if_neg (by rw [hb1]; decide)] at hr1
      refine U_condF (by simp only [SQ, hb1, n1, n2, n3, n4, n5, n6]) ?_
      refine U_exit rfl ?_
      replace hr1 := Option.some.inj hr1
      subst hr1
      exact ⟨_, hl2, ⟨rfl, rfl, by first | rfl | simp only [SQ, hb1, n1, n2, n3, n4, n5, n6]⟩, s1⟩
  ·
    rintro a2 H2 ⟨x_2, rfl, f2, s2⟩
    replace h := outE_n h
    refine U_fi f2 ?_
    refine U_seq ?_
    refine U_reg ?_
    simp only [SQ, n1, n2, n3, n4, n5, n6]
    refine hold_intro ?_
    refine U_ret ?_
    replace h := Option.some.inj h
    subst h
    refine ⟨.int .i64 (-1), by simp only [ires, iress, Try.results108, SQ, List.toList_toArray, n1, n2, n3, n4, n5, n6], ?_⟩
    exact .cl (closed_int _ _)

theorem w_ir_Find {fuel : Nat} {f_1 : Fnc} {label_1 : ByteArray} {r0_ : Int} (h : p_ir_Find fuel f_1 label_1 = some r0_) : Pure1 Try.prog 52 [.agg (eFnc f_1), .str label_1] (.int .i64 r0_) := by
  refine Pure1_S (all_cl (cl_agg (cl_eFnc _)) (all_cl (closed_str _) all_cl0)) fun F H s0 => ?_
  refine U_call 0 Try.func52 rfl (by kernel_rfl) (by simp [Try.ntmps52]) ?_
  rw [Try.ntmps52]
  refine U_fr 9 [(0, .agg (eFnc f_1)), (1, .str label_1)] rfl rfl rfl ?_
  unfold p_ir_Find at h
  refine U_seq ?_
  refine U_reg ?_
  simp only [SQ, ty26, sFnc, n1, n2, n3, n4, n5, n6]
  refine N_box s0 rfl fun d1 H1 s1 => ?_
  simp only [SQ, ty9, n1, n2, n3, n4, n5, n6]
  refine N_box s1 rfl fun d2 H2 s2 => ?_
  simp only [SQ, n1, n2, n3, n4, n5, n6]
  refine hold_intro ?_
  refine U_seq ?_
  obtain ⟨r1, kr1, h⟩ := bndO h
  refine U_reg ?_
  simp only [SQ, ty26, ty24, s2.b 1 rfl, sFnc, n1, n2, n3, n4, n5, n6]
  refine callLd (w_slices_IndexFunc_api_Block_api_Block_at_ir_Find_1 kr1) (.cons (.cl (cl_map cl_eBl f_1.blocks)) (.cons (Fz_fn (.cons (Fz_box (s2.pt 0 rfl) (.cons (.cl (closed_str _)) (.nil))) (.nil))) (.nil))) (flat_int _ _) ?_
  simp only [SQ, n1, n2, n3, n4, n5, n6]
  refine hold_intro ?_
  refine U_ret ?_
  replace h := Option.some.inj h
  subst h
  refine ⟨.int .i64 r1, by simp only [ires, iress, Try.results52, SQ, List.toList_toArray, n1, n2, n3, n4, n5, n6], ?_⟩
  exact .cl (closed_int _ _)

theorem w_ir_Count {fuel : Nat} {f_1 : Fnc} {r0_ : Int} (h : p_ir_Count fuel f_1 = some r0_) : Pure1 Try.prog 54 [.agg (eFnc f_1)] (.int .i64 r0_) := by
  refine Pure1_S (all_cl (cl_agg (cl_eFnc _)) all_cl0) fun F H s0 => ?_
  refine U_call 0 Try.func54 rfl (by kernel_rfl) (by simp [Try.ntmps54]) ?_
  rw [Try.ntmps54]
  refine U_fr 20 [(0, .agg (eFnc f_1))] rfl rfl rfl ?_
  unfold p_ir_Count at h
  refine U_seq ?_
  refine U_reg ?_
  simp only [SQ, ty26, sFnc, n1, n2, n3, n4, n5, n6]
  refine N_box s0 rfl fun d1 H1 s1 => ?_
  simp only [SQ, n1, n2, n3, n4, n5, n6]
  refine hold_intro ?_
  refine U_seq ?_
  refine U_reg ?_
  simp only [SQ, n1, n2, n3, n4, n5, n6]
  refine hold_intro ?_
  refine U_seq ?_
  refine U_seq ?_
  refine U_reg ?_
  simp only [SQ, ty26, ty24, s1.b 0 rfl, sFnc, len_sim ty24 rfl, n1, n2, n3, n4, n5, n6]
  refine hold_intro ?_
  refine U_fr 20 [(3, .int .i64 0), (7, .sim (f_1.blocks.map eBl) false), (8, .int .i64 (f_1.blocks.length : Int)), (9, .int .i64 0)] rfl rfl rfl ?_
  obtain ⟨u1, he1, h⟩ := bndE h
  refine U_cut (fun a' H' => ∃ nv_1 : Int, ∃ x_1 : Int, u1 = .n (nv_1, x_1) ∧ Fi a' 20 [(3, .int .i64 nv_1)] ∧ HS F [] H') (U_block (U_loop (fun z_ a' H' => match z_ with | (m1, nv_1, x_1) => loopE m1 (fun s => p_ir_Count_b1 fuel f_1 s.1 s.2) (nv_1, x_1) = some u1 ∧ Fi a' 20 [(3, .int .i64 nv_1), (7, .sim (f_1.blocks.map eBl) false), (8, .int .i64 (f_1.blocks.length : Int)), (9, .int .i64 x_1)] ∧ HS F [] H' : (Nat × Int × Int) → Fr → Heap → Prop) (fun z_ : Nat × Int × Int => z_.1) (fuel, 0, 0) ?_ ?_)) ?_
  · exact ⟨he1, ⟨rfl, rfl, rfl⟩, s1.sel [] (by decide)⟩
  ·
    rintro ⟨m1, nv_1, x_1⟩ a1 H2 ⟨hf1, f1, s2⟩
    refine U_fi f1 ?_
    obtain ⟨m1', m1_lt, u2, hr1, hl2⟩ := loopE_step hf1
    replace hr1 : p_ir_Count_b1 fuel f_1 nv_1 x_1 = some u2 := hr1
    unfold p_ir_Count_b1 at hr1
    refine U_seq ?_
    refine U_reg ?_
    simp only [SQ, n1, n2, n3, n4, n5, n6]
    refine hold_intro ?_
    refine U_seq ?_
    rcases Bool.eq_false_or_eq_true (decide (x_1 < (f_1.blocks.length : Int))) with hb1 | hb1
    ·
      rw [if_pos hb1] at hr1
      refine U_condT (by simp only [SQ, hb1, n1, n2, n3, n4, n5, n6]) ?_
      refine U_skip ?_
      refine U_seq ?_
      refine U_block ?_
      refine U_seq ?_
      obtain ⟨x1, kx1, hr1⟩ := bndO hr1
      refine U_reg ?_
      simp only [SQ, ty24, ty63, iia_sim (f := eBl) ty24 rfl ty63 kx1 rfl, row_sim (f := eBl) kx1, sBl, hb1, n1, n2, n3, n4, n5, n6]
      refine N_box s2 rfl fun d2 H3 s3 => ?_
      simp only [SQ, ty63, sBl, splice_all', s3.b 0 rfl, hb1, n1, n2, n3, n4, n5, n6]
      refine N_put 0 s3 rfl fun H4 s4 => ?_
      simp only [SQ, hb1, n1, n2, n3, n4, n5, n6]
      refine hold_intro ?_
      refine U_reg ?_
      simp only [SQ, ty63, ty61, s4.b 0 rfl, sBl, len_sim ty61 rfl, hb1, n1, n2, n3, n4, n5, n6]
      refine hold_intro ?_
      refine U_fr 20 [(3, .int .i64 (IntKind.wrap .i64 (nv_1 + (x1.code.length : Int)))), (7, .sim (f_1.blocks.map eBl) false), (8, .int .i64 (f_1.blocks.length : Int)), (9, .int .i64 x_1)] rfl rfl rfl ?_
      refine U_reg ?_
      simp only [SQ, hb1, n1, n2, n3, n4, n5, n6]
      refine hold_intro ?_
      replace hr1 := Option.some.inj hr1
      subst hr1
      exact ⟨(m1', IntKind.wrap .i64 (nv_1 + (x1.code.length : Int)), IntKind.wrap .i64 (x_1 + 1)), m1_lt, hl2, ⟨rfl, rfl, by first | rfl | simp only [SQ, hb1, n1, n2, n3, n4, n5, n6]⟩, s4.sel [] (by decide)⟩
    ·
      rw [if_neg (by rw [hb1]; decide)] at hr1
      refine U_condF (by simp only [SQ, hb1, n1, n2, n3, n4, n5, n6]) ?_
      refine U_exit rfl ?_
      replace hr1 := Option.some.inj hr1
      subst hr1
      exact ⟨_, _, hl2, ⟨rfl, rfl, by first | rfl | simp only [SQ, hb1, n1, n2, n3, n4, n5, n6]⟩, s2⟩
  ·
    rintro a2 H5 ⟨nv_2, x_2, rfl, f2, s5⟩
    replace h := outE_n h
    dsimp only at h
    refine U_fi f2 ?_
    refine U_seq ?_
    refine U_reg ?_
    simp only [SQ, n1, n2, n3, n4, n5, n6]
    refine hold_intro ?_
    refine U_ret ?_
    replace h := Option.some.inj h
    subst h
    refine ⟨.int .i64 nv_2, by simp only [ires, iress, Try.results54, SQ, List.toList_toArray, n1, n2, n3, n4, n5, n6], ?_⟩
    exact .cl (closed_int _ _)

theorem w_slices_Sort_string_string {fuel : Nat} {l m0_ : List ByteArray} (h : p_slices_Sort_string_string fuel l = some m0_) {v0_ : IV} : CallS Try.prog 105 [v0_] [sl R9i v0_ l] (fun r L => (r = (.tup []) ∧ L = [sl R9i v0_ m0_])) := by
  unfold p_slices_Sort_string_string at h
  split at h
  · cases h
    exact sortS_callS Try.slices_Sort_string Try.slices_Sort_string_none ⟨_, Try.func105, rfl, by decide +kernel⟩ (by omega) (fun _ => rfl)
  · cases h

theorem w_slices_Compact_string_string {fuel : Nat} {l r0_ : List ByteArray} (h : p_slices_Compact_string_string fuel l = some r0_) {v0_ : IV} : CallS Try.prog 106 [v0_] [sl R9i v0_ l] (fun r L => ∃ w0 : IV, (r = w0 ∧ L = [sl R9i w0 r0_])) := by
  unfold p_slices_Compact_string_string at h
  split at h
  · cases h
    exact (compactS_callS Try.slices_Compact_string Try.slices_Compact_string_empty ⟨_, Try.func106, rfl, by decide +kernel⟩ (by omega) (fun _ => rfl)).mono fun r L h => ⟨r, rfl, h⟩
  · cases h

theorem w_ir_Calls {fuel : Nat} {f_1 : Fnc} {r0_ : List ByteArray} (h : p_ir_Calls fuel f_1 = some r0_) : Pure1 Try.prog 42 [.agg (eFnc f_1)] (.sim (r0_.map eStr) false) := by
  refine Pure1_S (all_cl (cl_agg (cl_eFnc _)) all_cl0) fun F H s0 => ?_
  refine U_call 0 Try.func42 rfl (by kernel_rfl) (by simp [Try.ntmps42]) ?_
  rw [Try.ntmps42]
  refine U_fr 36 [(0, .agg (eFnc f_1))] rfl rfl rfl ?_
  unfold p_ir_Calls at h
  refine U_seq ?_
  refine U_reg ?_
  simp only [SQ, ty26, sFnc, n1, n2, n3, n4, n5, n6]
  refine N_box s0 rfl fun d1 H1 s1 => ?_
  simp only [SQ, n1, n2, n3, n4, n5, n6]
  refine hold_intro ?_
  refine U_seq ?_
  refine U_reg ?_
  simp only [SQ, n1, n2, n3, n4, n5, n6]
  refine hold_intro ?_
  refine U_seq ?_
  refine U_seq ?_
  refine U_reg ?_
  simp only [SQ, ty26, ty24, s1.b 0 rfl, sFnc, len_sim ty24 rfl, n1, n2, n3, n4, n5, n6]
  refine hold_intro ?_
  refine U_fr 36 [(3, .nils), (9, .sim (f_1.blocks.map eBl) false), (10, .int .i64 (f_1.blocks.length : Int)), (11, .int .i64 0)] rfl rfl rfl ?_
  obtain ⟨u1, he1, h⟩ := bndE h
  have s3 := s1.nil' R9i
  refine U_cut (fun a' H' => ∃ x_1 : Int, ∃ out_1 : List ByteArray, u1 = .n (x_1, out_1) ∧ ∃ v1 : IV, Fi a' 36 [(3, v1)] ∧ HS F [sl R9i v1 out_1] H') (U_block (U_loop (fun z_ a' H' => match z_ with | (m1, x_1, out_1) => loopE m1 (fun s => p_ir_Calls_b1 fuel f_1 s.1 s.2) (x_1, out_1) = some u1 ∧ ∃ v1 : IV, Fi a' 36 [(3, v1), (9, .sim (f_1.blocks.map eBl) false), (10, .int .i64 (f_1.blocks.length : Int)), (11, .int .i64 x_1)] ∧ HS F [sl R9i v1 out_1] H' : (Nat × Int × (List ByteArray)) → Fr → Heap → Prop) (fun z_ : Nat × Int × (List ByteArray) => z_.1) (fuel, 0, ([] : List ByteArray)) ?_ ?_)) ?_
  · exact ⟨he1, _, ⟨rfl, rfl, rfl⟩, s3.sel [0] (by decide)⟩
  ·
    rintro ⟨m1, x_1, out_1⟩ a1 H2 ⟨hf1, v1, f1, s4⟩
    refine U_fi f1 ?_
    obtain ⟨m1', m1_lt, u2, hr1, hl2⟩ := loopE_step hf1
    replace hr1 : p_ir_Calls_b1 fuel f_1 x_1 out_1 = some u2 := hr1
    unfold p_ir_Calls_b1 at hr1
    refine U_seq ?_
    refine U_reg ?_
    simp only [SQ, n1, n2, n3, n4, n5, n6]
    refine hold_intro ?_
    refine U_seq ?_
    rcases Bool.eq_false_or_eq_true (decide (x_1 < (f_1.blocks.length : Int))) with hb1 | hb1
    ·
      rw [if_pos hb1] at hr1
      refine U_condT (by simp only [SQ, hb1, n1, n2, n3, n4, n5, n6]) ?_
      refine U_skip ?_
      refine U_seq ?_
      refine U_block ?_
      refine U_seq ?_
      obtain ⟨x1, kx1, hr1⟩ := bndO hr1
      refine U_reg ?_
      simp only [SQ, ty24, ty63, iia_sim (f := eBl) ty24 rfl ty63 kx1 rfl, row_sim (f := eBl) kx1, sBl, hb1, n1, n2, n3, n4, n5, n6]
      refine N_box s4 rfl fun d2 H3 s5 => ?_
      simp only [SQ, ty63, sBl, splice_all', s5.b 0 rfl, hb1, n1, n2, n3, n4, n5, n6]
      refine N_put 0 s5 rfl fun H4 s6 => ?_
      simp only [SQ, hb1, n1, n2, n3, n4, n5, n6]
      refine hold_intro ?_
      refine U_seq ?_
      refine U_reg ?_
      simp only [SQ, ty63, ty61, s6.b 0 rfl, sBl, len_sim ty61 rfl, hb1, n1, n2, n3, n4, n5, n6]
      refine hold_intro ?_
      refine U_fr 36 [(3, v1), (9, .sim (f_1.blocks.map eBl) false), (10, .int .i64 (f_1.blocks.length : Int)), (11, .int .i64 x_1), (16, .sim (x1.code.map eIns) false), (17, .int .i64 (x1.code.length : Int)), (18, .int .i64 0)] rfl rfl rfl ?_
      obtain ⟨u3, he2, hr1⟩ := bndE hr1
      refine U_cut (fun a' H' => ∃ x_3 : Int, ∃ out_3 : List ByteArray, u3 = .n (x_3, out_3) ∧ ∃ v3 : IV, Fi a' 36 [(3, v3), (9, .sim (f_1.blocks.map eBl) false), (10, .int .i64 (f_1.blocks.length : Int)), (11, .int .i64 x_1)] ∧ HS F [sl R9i v3 out_3] H') (U_block (U_loop (fun z_ a' H' => match z_ with | (m2, x_3, out_3) => loopE m2 (fun s => p_ir_Calls_b2 fuel x1 s.1 s.2) (x_3, out_3) = some u3 ∧ ∃ v3 : IV, Fi a' 36 [(3, v3), (9, .sim (f_1.blocks.map eBl) false), (10, .int .i64 (f_1.blocks.length : Int)), (11, .int .i64 x_1), (16, .sim (x1.code.map eIns) false), (17, .int .i64 (x1.code.length : Int)), (18, .int .i64 x_3)] ∧ HS F [sl R9i v3 out_3] H' : (Nat × Int × (List ByteArray)) → Fr → Heap → Prop) (fun z_ : Nat × Int × (List ByteArray) => z_.1) (fuel, 0, out_1) ?_ ?_)) ?_
      · exact ⟨he2, _, ⟨rfl, rfl, by first | rfl | simp only [SQ, hb1, n1, n2, n3, n4, n5, n6]⟩, s6.sel [1] (by decide)⟩
      ·
        rintro ⟨m2, x_3, out_3⟩ a2 H5 ⟨hf2, v3, f2, s7⟩
        refine U_fi f2 ?_
        obtain ⟨m2', m2_lt, u4, hr2, hl4⟩ := loopE_step hf2
        replace hr2 : p_ir_Calls_b2 fuel x1 x_3 out_3 = some u4 := hr2
        unfold p_ir_Calls_b2 at hr2
        refine U_seq ?_
        refine U_reg ?_
        simp only [SQ, hb1, n1, n2, n3, n4, n5, n6]
        refine hold_intro ?_
        refine U_seq ?_
        rcases Bool.eq_false_or_eq_true (decide (x_3 < (x1.code.length : Int))) with hb2 | hb2
        ·
          rw [if_pos hb2] at hr2
          refine U_condT (by simp only [SQ, hb1, hb2, n1, n2, n3, n4, n5, n6]) ?_
          refine U_skip ?_
          refine U_seq ?_
          refine U_fr 36 [(3, v3), (9, .sim (f_1.blocks.map eBl) false), (10, .int .i64 (f_1.blocks.length : Int)), (11, .int .i64 x_1), (16, .sim (x1.code.map eIns) false), (17, .int .i64 (x1.code.length : Int)), (18, .int .i64 x_3)] rfl rfl rfl ?_
          obtain ⟨out_5, kj1, hr2⟩ := bndO hr2
          refine U_cut (fun a' H' => ∃ v5 : IV, Fi a' 36 [(3, v5), (9, .sim (f_1.blocks.map eBl) false), (10, .int .i64 (f_1.blocks.length : Int)), (11, .int .i64 x_1), (16, .sim (x1.code.map eIns) false), (17, .int .i64 (x1.code.length : Int)), (18, .int .i64 x_3)] ∧ HS F [sl R9i v5 out_5] H') ?_ ?_
          ·
            refine U_block ?_
            refine U_seq ?_
            obtain ⟨x2, kx2, kj1⟩ := bndO kj1
            refine U_reg ?_
            simp only [SQ, ty61, ty66, iia_sim (f := eIns) ty61 rfl ty66 kx2 rfl, row_sim (f := eIns) kx2, sIns, hb1, hb2, n1, n2, n3, n4, n5, n6]
            refine N_box s7 rfl fun d3 H7 s9 => ?_
            simp only [SQ, ty66, sIns, splice_all', s9.b 0 rfl, hb1, hb2, n1, n2, n3, n4, n5, n6]
            refine N_put 0 s9 rfl fun H8 s10 => ?_
            simp only [SQ, hb1, hb2, n1, n2, n3, n4, n5, n6]
            refine hold_intro ?_
            refine U_seq ?_
            refine U_reg ?_
            simp only [SQ, ty66, ty3, s10.b 0 rfl, sIns, hb1, hb2, n1, n2, n3, n4, n5, n6]
            refine hold_intro ?_
            rcases Bool.eq_false_or_eq_true (decide (x2.op = 19)) with hb3 | hb3
            ·
              rw [if_pos hb3] at kj1
              refine U_condT (by simp only [SQ, hb1, hb2, hb3, n1, n2, n3, n4, n5, n6]) ?_
              obtain ⟨l1, kl1, kj1⟩ := bndO kj1
              refine U_reg ?_
              simp only [SQ, ty66, ty9, s10.b 0 rfl, sIns, ty64, hb1, hb2, hb3, n1, n2, n3, n4, n5, n6]
              refine N_sl ([x2.name] : List ByteArray) R9i s10 rfl rfl (by first | rfl | simp only [SQ]) (by first | rfl | simp only [List.length_map, List.length_replicate]) (zip_flat rfl) ?_
              intro v6 H9 s11
              simp only [SQ, ty64, ty9, hb1, hb2, hb3, n1, n2, n3, n4, n5, n6]
              refine N_app (xs := out_3) (ys := ([x2.name] : List ByteArray)) 2 s11 rfl rfl ty64 rfl ty64 rfl ty9 rfl rfl rfl (by decide) rfl (s11.srowsi 0 rfl) kl1 (fun _ _ e => by cases e) ?_
              intro v7 H10 s12
              simp only [SQ, hb1, hb2, hb3, n1, n2, n3, n4, n5, n6]
              refine hold_intro ?_
              replace kj1 := Option.some.inj kj1
              subst kj1
              exact ⟨_, ⟨rfl, rfl, by first | rfl | simp only [SQ, hb1, hb2, hb3, n1, n2, n3, n4, n5, n6]⟩, s12.sel [0] (by decide)⟩
            ·
              rw [if_neg (by rw [hb3]; decide)] at kj1
              refine U_condF (by simp only [SQ, hb1, hb2, hb3, n1, n2, n3, n4, n5, n6]) ?_
              refine U_skip ?_
              replace kj1 := Option.some.inj kj1
              subst kj1
              exact ⟨_, ⟨rfl, rfl, by first | rfl | simp only [SQ, hb1, hb2, hb3, n1, n2, n3, n4, n5, n6]⟩, s10.sel [1] (by decide)⟩
          ·
            rintro a3 H6 ⟨v5, f3, s8⟩
            refine U_fi f3 ?_
            refine U_reg ?_
            simp only [SQ, hb1, hb2, n1, n2, n3, n4, n5, n6]
            refine hold_intro ?_
            replace hr2 := Option.some.inj hr2
            subst hr2
            exact ⟨(m2', IntKind.wrap .i64 (x_3 + 1), out_5), m2_lt, hl4, _, ⟨rfl, rfl, by first | rfl | simp only [SQ, hb1, hb2, n1, n2, n3, n4, n5, n6]⟩, s8⟩
        ·
          rw [if_neg (by rw [hb2]; decide)] at hr2
          refine U_condF (by simp only [SQ, hb1, hb2, n1, n2, n3, n4, n5, n6]) ?_
          refine U_exit rfl ?_
          replace hr2 := Option.some.inj hr2
          subst hr2
          exact ⟨_, _, hl4, _, ⟨rfl, rfl, by first | rfl | simp only [SQ, hb1, hb2, n1, n2, n3, n4, n5, n6]⟩, s7⟩
      ·
        rintro a4 H11 ⟨x_4, out_4, rfl, v4, f4, s13⟩
        replace hr1 := outE_n hr1
        dsimp only at hr1
        refine U_fi f4 ?_
        refine U_reg ?_
        simp only [SQ, hb1, n1, n2, n3, n4, n5, n6]
        refine hold_intro ?_
        replace hr1 := Option.some.inj hr1
        subst hr1
        exact ⟨(m1', IntKind.wrap .i64 (x_1 + 1), out_4), m1_lt, hl2, _, ⟨rfl, rfl, by first | rfl | simp only [SQ, hb1, n1, n2, n3, n4, n5, n6]⟩, s13⟩
    ·
      rw [if_neg (by rw [hb1]; decide)] at hr1
      refine U_condF (by simp only [SQ, hb1, n1, n2, n3, n4, n5, n6]) ?_
      refine U_exit rfl ?_
      replace hr1 := Option.some.inj hr1
      subst hr1
      exact ⟨_, _, hl2, _, ⟨rfl, rfl, by first | rfl | simp only [SQ, hb1, n1, n2, n3, n4, n5, n6]⟩, s4⟩
  ·
    rintro a5 H12 ⟨x_2, out_2, rfl, v2, f5, s14⟩
    replace h := outE_n h
    dsimp only at h
    refine U_fi f5 ?_
    refine U_seq ?_
    obtain ⟨m3, km3, h⟩ := bndO h
    refine U_reg ?_
    simp only [SQ, n1, n2, n3, n4, n5, n6]
    refine callS (w_slices_Sort_string_string km3) (s14.sel [0] (by decide)) rfl ?_
    rintro _ H13 _ ⟨rfl, rfl⟩ s15
    simp only [SQ, n1, n2, n3, n4, n5, n6]
    refine hold_intro ?_
    refine U_seq ?_
    obtain ⟨r1, kr1, h⟩ := bndO h
    refine U_reg ?_
    simp only [SQ, n1, n2, n3, n4, n5, n6]
    refine callS (w_slices_Compact_string_string kr1) (s15.sel [0] (by decide)) rfl ?_
    rintro w1 H14 _ ⟨_, rfl, rfl⟩ s16
    simp only [SQ, n1, n2, n3, n4, n5, n6]
    refine hold_intro ?_
    refine U_ret ?_
    replace h := Option.some.inj h
    subst h
    refine ⟨w1, by simp only [ires, iress, Try.results42, SQ, List.toList_toArray, n1, n2, n3, n4, n5, n6], ?_⟩
    exact s16.fzS 0 rfl

theorem w_slices_Clone_api_Reg_api_Reg_own {fuel : Nat} {s r0_ : List Rg} (h : p_slices_Clone_api_Reg_api_Reg fuel s = some r0_) : CallS Try.prog 103 [.sim (s.map eRg) false] [] (fun r L => ∃ w0 : IV, (r = w0 ∧ L = [sl R84i w0 r0_])) := by
  intro F H s0
  refine U_call 0 Try.func103 rfl (by kernel_rfl) (by simp [Try.ntmps103]) ?_
  rw [Try.ntmps103]
  refine U_fr 8 [(0, .sim (s.map eRg) false)] rfl rfl rfl ?_
  unfold p_slices_Clone_api_Reg_api_Reg at h
  rcases (show s = [] ∨ s ≠ [] by cases s <;> simp) with hs | hs
  · subst hs
    refine U_nil 0 (full := false) rfl ?_ ?_
    · refine U_seq ?_
      refine U_reg ?_
      simp only [SQ, n1, n2, n3, n4, n5, n6]
      refine hold_intro ?_
      refine U_seq ?_
      refine U_seq ?_
      refine U_reg ?_
      simp only [SQ, ty22, nil_nil ty22 rfl, n1, n2, n3, n4, n5, n6]
      refine hold_intro ?_
      refine U_condT rfl ?_
      refine U_seq ?_
      refine U_reg ?_
      simp only [SQ, ty22, n1, n2, n3, n4, n5, n6]
      refine hold_intro ?_
      refine U_ret ?_
      obtain rfl : [] = r0_ := by simpa [PL.app] using h
      exact ⟨_, by simp only [ires, iress, Try.results103, SQ, List.toList_toArray, n1, n2, n3, n4, n5, n6], _, ⟨_, rfl, rfl⟩, s0.nil' R84i⟩
    · refine U_seq ?_
      refine U_reg ?_
      simp only [SQ, n1, n2, n3, n4, n5, n6]
      refine hold_intro ?_
      refine U_seq ?_
      refine U_seq ?_
      refine U_reg ?_
      simp only [SQ, ty22, nil_sime ty22 rfl, n1, n2, n3, n4, n5, n6]
      refine hold_intro ?_
      refine U_condF rfl ?_
      refine U_skip ?_
      refine U_seq ?_
      refine U_sub 0 (v := .sime) rfl sub_sime ?_
      refine U_reg ?_
      simp only [SQ, ty22, ty84, n1, n2, n3, n4, n5, n6]
      refine N_sl ([] : List Rg) R84i s0 rfl rfl (by first | rfl | simp only [SQ]) rfl (zip_flat rfl) ?_
      intro v1 H1 s1
      simp only [SQ, ty22, ty84, n1, n2, n3, n4, n5, n6]
      refine N_app (f := eRg) (xs := []) (ys := []) 0 s1 rfl rfl ty22 rfl ty22 rfl ty84 rfl rfl rfl (by decide) rfl (by simp [srows]) h (fun _ _ e => by cases e) ?_
      intro v2 H2 s2
      simp only [SQ, ty22, ty84, n1, n2, n3, n4, n5, n6]
      refine hold_intro ?_
      refine U_ret ?_
      exact ⟨_, by simp only [ires, iress, Try.results103, SQ, List.toList_toArray, n1, n2, n3, n4, n5, n6], _, ⟨_, rfl, rfl⟩, s2⟩
  · have hq : ∀ x, ibin Try.prog .eql 22 (.sim (s.map eRg) false) .nils x = some (.bool false) := fun x => nil_cons ty22 rfl hs
    refine U_seq ?_
    refine U_reg ?_
    simp only [SQ, n1, n2, n3, n4, n5, n6]
    refine hold_intro ?_
    refine U_seq ?_
    refine U_seq ?_
    refine U_reg ?_
    simp only [SQ, ty22, hq, n1, n2, n3, n4, n5, n6]
    refine hold_intro ?_
    refine U_condF rfl ?_
    refine U_skip ?_
    refine U_seq ?_
    refine U_reg ?_
    simp only [SQ, ty22, ty84, n1, n2, n3, n4, n5, n6]
    refine N_sl ([] : List Rg) R84i s0 rfl rfl (by first | rfl | simp only [SQ]) rfl (zip_flat rfl) ?_
    intro v1 H1 s1
    simp only [SQ, ty22, ty84, n1, n2, n3, n4, n5, n6]
    refine N_app (f := eRg) (xs := []) (ys := s) 0 s1 rfl rfl ty22 rfl ty22 rfl ty84 rfl rfl rfl (by decide) rfl (srows_sim (f := eRg) (fun _ => by simp only [SQ, sRg])) h (fun _ _ e => by cases e) ?_
    intro v2 H2 s2
    simp only [SQ, ty22, ty84, n1, n2, n3, n4, n5, n6]
    refine hold_intro ?_
    refine U_ret ?_
    exact ⟨_, by simp only [ires, iress, Try.results103, SQ, List.toList_toArray, n1, n2, n3, n4, n5, n6], _, ⟨_, rfl, rfl⟩, s2⟩
theorem w_slices_Clone_api_Reg_api_Reg {fuel : Nat} {s r0_ : List Rg} (h : p_slices_Clone_api_Reg_api_Reg fuel s = some r0_) : Pure1 Try.prog 103 [.sim (s.map eRg) false] (.sim (r0_.map eRg) false) := by
  refine Pure1_S (all_cl (cl_map cl_eRg _) all_cl0) fun F H s0 => ?_
  refine (w_slices_Clone_api_Reg_api_Reg_own h F H s0).mono fun v H' hv => ?_
  obtain ⟨L, ⟨w, rfl, rfl⟩, s1⟩ := hv
  exact s1.fzS 0 rfl

theorem w_ir_Copy_1 {fuel : Nat} {o_1 : Opd} {r0_ : Opd} (h : p_ir_Copy_1 fuel o_1 = some r0_) : Pure1 Try.prog 98 [.agg (eOpd o_1)] (.agg (eOpd r0_)) := by
  refine Pure1_S (all_cl (cl_agg (cl_eOpd _)) all_cl0) fun F H s0 => ?_
  refine U_call 0 Try.func98 rfl (by kernel_rfl) (by simp [Try.ntmps98]) ?_
  rw [Try.ntmps98]
  refine U_fr 4 [(0, .agg (eOpd o_1))] rfl rfl rfl ?_
  unfold p_ir_Copy_1 at h
  refine U_seq ?_
  refine U_reg ?_
  simp only [SQ, ty58, sOpd, n1, n2, n3, n4, n5, n6]
  refine N_box s0 rfl fun d1 H1 s1 => ?_
  simp only [SQ, ty58, n1, n2, n3, n4, n5, n6]
  refine N_box s1 rfl fun d2 H2 s2 => ?_
  simp only [SQ, n1, n2, n3, n4, n5, n6]
  refine hold_intro ?_
  refine U_seq ?_
  refine U_reg ?_
  simp only [SQ, ty58, s2.b 1 rfl, sOpd, splice_all', s2.b 0 rfl, n1, n2, n3, n4, n5, n6]
  refine N_put 0 s2 rfl fun H3 s3 => ?_
  simp only [SQ, n1, n2, n3, n4, n5, n6]
  refine hold_intro ?_
  refine U_ret ?_
  replace h := Option.some.inj h
  subst h
  refine ⟨.agg (eOpd o_1), by simp only [ires, iress, Try.results98, SQ, List.toList_toArray, s3.b 0 rfl, sOpd, ty58, n1, n2, n3, n4, n5, n6], ?_⟩
  exact .cl (cl_agg (cl_eOpd _))

theorem w_ir_turned_at_ir_Copy_1 {fuel : Nat} {l_1 : List Opd} {r0_ : List Opd} (h : p_ir_turned_at_ir_Copy_1 fuel l_1 = some r0_) : Pure1 Try.prog 104 [.sim (l_1.map eOpd) false, .fn (.func 98) [] []] (.sim (r0_.map eOpd) false) := by
  refine Pure1_S (all_cl (cl_map cl_eOpd l_1) (all_cl (closed_fn _) all_cl0)) fun F H s0 => ?_
  refine U_call 0 Try.func104 rfl (by kernel_rfl) (by simp [Try.ntmps104]) ?_
  rw [Try.ntmps104]
  refine U_fr 26 [(0, .sim (l_1.map eOpd) false), (1, .fn (.func 98) [] [])] rfl rfl rfl ?_
  unfold p_ir_turned_at_ir_Copy_1 at h
  refine U_seq ?_
  refine U_reg ?_
  simp only [SQ, n1, n2, n3, n4, n5, n6]
  refine hold_intro ?_
  refine U_seq ?_
  obtain ⟨l1, kl1, h⟩ := bndO h
  refine U_reg ?_
  simp only [SQ, len_sim ty23 rfl, ty23, ty58, imk_some (d := 10) (f := eOpd) ty23 rfl ty58 rfl rfl (by decide) kl1, n1, n2, n3, n4, n5, n6]
  refine N_sl l1 R58i s0 rfl rfl (by first | rfl | simp only [SQ]) (by first | rfl | simp only [List.length_map, List.length_replicate]) (zip_flat rfl) ?_
  intro v1 H1 s1
  simp only [SQ, n1, n2, n3, n4, n5, n6]
  refine hold_intro ?_
  refine U_seq ?_
  refine U_seq ?_
  refine U_reg ?_
  simp only [SQ, len_sim ty23 rfl, n1, n2, n3, n4, n5, n6]
  refine hold_intro ?_
  refine U_fr 26 [(1, .fn (.func 98) [] []), (5, v1), (11, .sim (l_1.map eOpd) false), (12, .int .i64 (l_1.length : Int)), (13, .int .i64 0)] rfl rfl rfl ?_
  obtain ⟨u1, he1, h⟩ := bndE h
  refine U_cut (fun a' H' => ∃ x_1 : Int, ∃ out_1 : List Opd, u1 = .n (x_1, out_1) ∧ Fi a' 26 [(1, .fn (.func 98) [] []), (5, v1)] ∧ HS F [sl R58i v1 out_1] H') (U_block (U_loop (fun z_ a' H' => match z_ with | (m1, x_1, out_1) => loopE m1 (fun s => p_ir_turned_at_ir_Copy_1_b1 fuel l_1 s.1 s.2) (x_1, out_1) = some u1 ∧ Fi a' 26 [(1, .fn (.func 98) [] []), (5, v1), (11, .sim (l_1.map eOpd) false), (12, .int .i64 (l_1.length : Int)), (13, .int .i64 x_1)] ∧ HS F [sl R58i v1 out_1] H' : (Nat × Int × (List Opd)) → Fr → Heap → Prop) (fun z_ : Nat × Int × (List Opd) => z_.1) (fuel, 0, l1) ?_ ?_)) ?_
  · exact ⟨he1, ⟨rfl, rfl, rfl⟩, s1⟩
  ·
    rintro ⟨m1, x_1, out_1⟩ a1 H2 ⟨hf1, f1, s2⟩
    refine U_fi f1 ?_
    obtain ⟨m1', m1_lt, u2, hr1, hl2⟩ := loopE_step hf1
    replace hr1 : p_ir_turned_at_ir_Copy_1_b1 fuel l_1 x_1 out_1 = some u2 := hr1
    unfold p_ir_turned_at_ir_Copy_1_b1 at hr1
    refine U_seq ?_
    refine U_reg ?_
    simp only [SQ, n1, n2, n3, n4, n5, n6]
    refine hold_intro ?_
    refine U_seq ?_
    rcases Bool.eq_false_or_eq_true (decide (x_1 < (l_1.length : Int))) with hb1 | hb1
    ·
      rw [if_pos hb1] at hr1
      refine U_condT (by simp only [SQ, hb1, n1, n2, n3, n4, n5, n6]) ?_
      refine U_skip ?_
      refine U_seq ?_
      refine U_block ?_
      refine U_seq ?_
      obtain ⟨x1, kx1, hr1⟩ := bndO hr1
      refine U_reg ?_
      simp only [SQ, ty23, ty58, iia_sim (f := eOpd) ty23 rfl ty58 kx1 rfl, row_sim (f := eOpd) kx1, sOpd, hb1, n1, n2, n3, n4, n5, n6]
      refine N_box s2 rfl fun d1 H3 s3 => ?_
      simp only [SQ, ty58, sOpd, splice_all', s3.b 0 rfl, hb1, n1, n2, n3, n4, n5, n6]
      refine N_put 0 s3 rfl fun H4 s4 => ?_
      simp only [SQ, hb1, n1, n2, n3, n4, n5, n6]
      refine hold_intro ?_
      refine U_fr 26 [(1, .fn (.func 98) [] []), (5, v1), (6, .int .i64 x_1), (7, .pb d1 0 0), (11, .sim (l_1.map eOpd) false), (12, .int .i64 (l_1.length : Int)), (13, .int .i64 x_1)] rfl rfl rfl ?_
      obtain ⟨r1, kr1, hr1⟩ := bndO hr1
      obtain ⟨x2, kx2, hr1⟩ := bndO hr1
      obtain ⟨l2, kl2, hr1⟩ := bndO hr1
      refine U_reg ?_
      simp only [SQ, ty58, s4.b 0 rfl, sOpd, hb1, n1, n2, n3, n4, n5, n6]
      refine callP (w_ir_Copy_1 kr1) ?_
      obtain ⟨w1_i, w1_r, w1_a, w1_1⟩ := s4.at (P := Try.prog) (k := .i64) 1 rfl ty23 rfl ty58 rfl kx2
      simp only [SQ, ty23, ty58, w1_1, hb1, n1, n2, n3, n4, n5, n6]
      refine N_st (y := r1) 1 s4 rfl w1_a kx2 ty58 rfl (by first | rfl | simp only [SQ, sOpd, splice_all', hb1, n1, n2, n3, n4, n5, n6]) (by first | decide | simp only [SQ, sOpd, splice_all', hb1, n1, n2, n3, n4, n5, n6] <;> decide) (by simp only [SQ, sOpd, splice_all', hb1, n1, n2, n3, n4, n5, n6]) (by first | rfl | simp only [SQ, sOpd, splice_all', hb1, n1, n2, n3, n4, n5, n6] <;> rfl) kl2 fun H5 s5 => ?_
      simp only [SQ, hb1, n1, n2, n3, n4, n5, n6]
      refine hold_intro ?_
      refine U_reg ?_
      simp only [SQ, hb1, n1, n2, n3, n4, n5, n6]
      refine hold_intro ?_
      replace hr1 := Option.some.inj hr1
      subst hr1
      exact ⟨(m1', IntKind.wrap .i64 (x_1 + 1), l2), m1_lt, hl2, ⟨rfl, rfl, by first | rfl | simp only [SQ, hb1, n1, n2, n3, n4, n5, n6]⟩, s5.sel [1] (by decide)⟩
    ·
      rw [if_neg (by rw [hb1]; decide)] at hr1
      refine U_condF (by simp only [SQ, hb1, n1, n2, n3, n4, n5, n6]) ?_
      refine U_exit rfl ?_
      replace hr1 := Option.some.inj hr1
      subst hr1
      exact ⟨_, _, hl2, ⟨rfl, rfl, by first | rfl | simp only [SQ, hb1, n1, n2, n3, n4, n5, n6]⟩, s2⟩
  ·
    rintro a2 H6 ⟨x_2, out_2, rfl, f2, s6⟩
    replace h := outE_n h
    dsimp only at h
    refine U_fi f2 ?_
    refine U_seq ?_
    refine U_reg ?_
    simp only [SQ, n1, n2, n3, n4, n5, n6]
    refine hold_intro ?_
    refine U_ret ?_
    replace h := Option.some.inj h
    subst h
    refine ⟨v1, by simp only [ires, iress, Try.results104, SQ, List.toList_toArray, n1, n2, n3, n4, n5, n6], ?_⟩
    exact s6.fzS 0 rfl

theorem w_ir_CopyInstr {fuel : Nat} {i_1 : Ins} {r0_ : Ins} (h : p_ir_CopyInstr fuel i_1 = some r0_) : Pure1 Try.prog 97 [.agg (eIns i_1)] (.agg (eIns r0_)) := by
  refine Pure1_S (all_cl (cl_agg (cl_eIns _)) all_cl0) fun F H s0 => ?_
  refine U_call 0 Try.func97 rfl (by kernel_rfl) (by simp [Try.ntmps97]) ?_
  rw [Try.ntmps97]
  refine U_fr 36 [(0, .agg (eIns i_1))] rfl rfl rfl ?_
  unfold p_ir_CopyInstr at h
  refine U_seq ?_
  refine U_reg ?_
  simp only [SQ, ty66, sIns, n1, n2, n3, n4, n5, n6]
  refine N_box s0 rfl fun d1 H1 s1 => ?_
  simp only [SQ, ty66, n1, n2, n3, n4, n5, n6]
  refine N_box s1 rfl fun d2 H2 s2 => ?_
  simp only [SQ, n1, n2, n3, n4, n5, n6]
  refine hold_intro ?_
  refine U_seq ?_
  refine U_reg ?_
  simp only [SQ, ty66, s2.b 1 rfl, sIns, n1, n2, n3, n4, n5, n6]
  refine N_box s2 rfl fun d3 H3 s3 => ?_
  simp only [SQ, ty66, sIns, splice_all', s3.b 0 rfl, n1, n2, n3, n4, n5, n6]
  refine N_put 0 s3 rfl fun H4 s4 => ?_
  simp only [SQ, n1, n2, n3, n4, n5, n6]
  refine hold_intro ?_
  refine U_seq ?_
  obtain ⟨l1, kl1, h⟩ := bndO h
  refine U_reg ?_
  simp only [SQ, ty66, ty23, s4.b 2 rfl, sIns, len_sim ty23 rfl, ty58, imk_some (d := 8) (f := eOpd) ty23 rfl ty58 rfl rfl (by decide) kl1, n1, n2, n3, n4, n5, n6]
  refine N_sl l1 R58i s4 rfl rfl (by first | rfl | simp only [SQ]) (by first | rfl | simp only [List.length_map, List.length_replicate]) (zip_flat rfl) ?_
  intro v1 H5 s5
  simp only [SQ, ty66, ty23, s5.cf 0 rfl, sIns, s5.b 1 rfl, n1, n2, n3, n4, n5, n6]
  refine N_put 1 s5 rfl fun H6 s6 => ?_
  simp only [SQ, n1, n2, n3, n4, n5, n6]
  refine hold_intro ?_
  refine U_seq ?_
  obtain ⟨l2, kl2, h⟩ := bndO h
  refine U_reg ?_
  simp only [SQ, ty66, ty23, s6.b 1 rfl, s6.b 3 rfl, sIns, ty58, n1, n2, n3, n4, n5, n6]
  refine N_copy (ys := i_1.args) 0 s6 rfl ty23 rfl ty23 rfl ty58 rfl (srows_sim (f := eOpd) (fun _ => by simp only [SQ, sOpd])) ?_
  rw [Option.some.inj kl2]
  intro H7 s7
  simp only [SQ, n1, n2, n3, n4, n5, n6]
  refine hold_intro ?_
  refine U_seq ?_
  refine U_fr 36 [(1, .pb d1 0 0), (2, .pb d2 0 0), (3, .pb d3 0 0)] rfl rfl rfl ?_
  obtain ⟨l3, kl3, h⟩ := bndO h
  refine U_reg ?_
  simp only [SQ, ty66, ty64, s7.b 3 rfl, sIns, len_sim ty64 rfl, ty9, imk_some (d := 18) (f := eStr) ty64 rfl ty9 rfl rfl (by decide) kl3, n1, n2, n3, n4, n5, n6]
  refine N_sl l3 R9i s7 rfl rfl (by first | rfl | simp only [SQ]) (by first | rfl | simp only [List.length_map, List.length_replicate]) (zip_flat rfl) ?_
  intro v2 H8 s8
  simp only [SQ, ty66, ty64, s8.cf 0 rfl, s8.b 2 rfl, n1, n2, n3, n4, n5, n6]
  refine N_put 2 s8 rfl fun H9 s9 => ?_
  simp only [SQ, n1, n2, n3, n4, n5, n6]
  refine hold_intro ?_
  refine U_seq ?_
  obtain ⟨l4, kl4, h⟩ := bndO h
  refine U_reg ?_
  simp only [SQ, ty66, ty64, s9.b 2 rfl, s9.b 4 rfl, sIns, ty9, n1, n2, n3, n4, n5, n6]
  refine N_copy (ys := i_1.labels) 0 s9 rfl ty64 rfl ty64 rfl ty9 rfl (srows_sim (f := eStr) (fun _ => by simp only [SQ])) ?_
  rw [Option.some.inj kl4]
  intro H10 s10
  simp only [SQ, n1, n2, n3, n4, n5, n6]
  refine hold_intro ?_
  refine U_seq ?_
  obtain ⟨l5, kl5, h⟩ := bndO h
  refine U_reg ?_
  simp only [SQ, ty66, ty37, s10.b 4 rfl, sIns, len_sim ty37 rfl, ty3, imk_some (d := 28) (f := eInt) ty37 rfl ty3 rfl rfl (by decide) kl5, n1, n2, n3, n4, n5, n6]
  refine N_sl l5 R3i s10 rfl rfl (by first | rfl | simp only [SQ]) (by first | rfl | simp only [List.length_map, List.length_replicate]) (zip_flat rfl) ?_
  intro v3 H11 s11
  simp only [SQ, ty66, ty37, s11.cf 0 rfl, s11.b 3 rfl, n1, n2, n3, n4, n5, n6]
  refine N_put 3 s11 rfl fun H12 s12 => ?_
  simp only [SQ, n1, n2, n3, n4, n5, n6]
  refine hold_intro ?_
  refine U_seq ?_
  refine U_fr 36 [(1, .pb d1 0 0), (2, .pb d2 0 0), (3, .pb d3 0 0)] rfl rfl rfl ?_
  obtain ⟨l6, kl6, h⟩ := bndO h
  refine U_reg ?_
  simp only [SQ, ty66, ty37, s12.b 3 rfl, s12.b 5 rfl, sIns, ty3, n1, n2, n3, n4, n5, n6]
  refine N_copy (ys := i_1.cases) 0 s12 rfl ty37 rfl ty37 rfl ty3 rfl (srows_sim (f := eInt) (fun _ => by simp only [SQ])) ?_
  rw [Option.some.inj kl6]
  intro H13 s13
  simp only [SQ, n1, n2, n3, n4, n5, n6]
  refine hold_intro ?_
  refine U_seq ?_
  refine U_reg ?_
  simp only [SQ, ty66, s13.b 3 rfl, s13.cf 2 rfl, s13.cf 1 rfl, s13.cf 0 rfl, s13.b 4 rfl, n1, n2, n3, n4, n5, n6]
  refine N_put 4 s13 rfl fun H14 s14 => ?_
  simp only [SQ, n1, n2, n3, n4, n5, n6]
  refine hold_intro ?_
  refine U_ret ?_
  replace h := Option.some.inj h
  subst h
  refine ⟨.agg [.int .i64 i_1.op, .int .i64 i_1.dst.kind, .int .i64 i_1.dst.cls, .int .i64 i_1.dst.n, .int .i64 i_1.dst.tag, v1, .str i_1.name, .int .i64 i_1.off, v2, v3], by simp only [ires, iress, Try.results97, SQ, List.toList_toArray, s14.b 4 rfl, ty66, n1, n2, n3, n4, n5, n6], ?_⟩
  exact Fz_agg (.cons (.cl (closed_int _ _)) (.cons (.cl (closed_int _ _)) (.cons (.cl (closed_int _ _)) (.cons (.cl (closed_int _ _)) (.cons (.cl (closed_int _ _)) (.cons (s14.fzS 2 rfl) (.cons (.cl (closed_str _)) (.cons (.cl (closed_int _ _)) (.cons (s14.fzS 1 rfl) (.cons (s14.fzS 0 rfl) (.nil)))))))))))

theorem w_ir_MapInstr_at_ir_Copy_1 {fuel : Nat} {i_1 : Ins} {r0_ : Ins} (h : p_ir_MapInstr_at_ir_Copy_1 fuel i_1 = some r0_) : Pure1 Try.prog 43 [.agg (eIns i_1), .fn (.func 98) [] []] (.agg (eIns r0_)) := by
  refine Pure1_S (all_cl (cl_agg (cl_eIns _)) (all_cl (closed_fn _) all_cl0)) fun F H s0 => ?_
  refine U_call 0 Try.func43 rfl (by kernel_rfl) (by simp [Try.ntmps43]) ?_
  rw [Try.ntmps43]
  refine U_fr 19 [(0, .agg (eIns i_1)), (1, .fn (.func 98) [] [])] rfl rfl rfl ?_
  unfold p_ir_MapInstr_at_ir_Copy_1 at h
  refine U_seq ?_
  refine U_reg ?_
  simp only [SQ, ty66, sIns, n1, n2, n3, n4, n5, n6]
  refine N_box s0 rfl fun d1 H1 s1 => ?_
  simp only [SQ, ty66, n1, n2, n3, n4, n5, n6]
  refine N_box s1 rfl fun d2 H2 s2 => ?_
  simp only [SQ, n1, n2, n3, n4, n5, n6]
  refine hold_intro ?_
  refine U_seq ?_
  obtain ⟨r1, kr1, h⟩ := bndO h
  refine U_reg ?_
  simp only [SQ, ty66, s2.b 1 rfl, sIns, n1, n2, n3, n4, n5, n6]
  refine callP (w_ir_CopyInstr kr1) ?_
  simp only [SQ, ty66, n1, n2, n3, n4, n5, n6]
  refine N_box s2 rfl fun d3 H3 s3 => ?_
  simp only [SQ, ty66, sIns, splice_all', s3.b 0 rfl, n1, n2, n3, n4, n5, n6]
  refine N_put 0 s3 rfl fun H4 s4 => ?_
  simp only [SQ, n1, n2, n3, n4, n5, n6]
  refine hold_intro ?_
  refine U_seq ?_
  obtain ⟨r2, kr2, h⟩ := bndO h
  refine U_reg ?_
  simp only [SQ, ty66, ty58, s4.b 2 rfl, sIns, n1, n2, n3, n4, n5, n6]
  refine callP (w_ir_Copy_1 kr2) ?_
  simp only [SQ, ty66, ty58, sOpd, xOpd, sIns, s4.b 0 rfl, n1, n2, n3, n4, n5, n6]
  refine N_put 0 s4 rfl fun H5 s5 => ?_
  simp only [SQ, n1, n2, n3, n4, n5, n6]
  refine hold_intro ?_
  refine U_seq ?_
  obtain ⟨r3, kr3, h⟩ := bndO h
  refine U_reg ?_
  simp only [SQ, ty66, ty23, s5.b 2 rfl, sIns, n1, n2, n3, n4, n5, n6]
  refine callP (w_ir_turned_at_ir_Copy_1 kr3) ?_
  simp only [SQ, ty66, ty23, s5.b 0 rfl, n1, n2, n3, n4, n5, n6]
  refine N_put 0 s5 rfl fun H6 s6 => ?_
  simp only [SQ, n1, n2, n3, n4, n5, n6]
  refine hold_intro ?_
  refine U_seq ?_
  refine U_fr 19 [(1, .fn (.func 98) [] []), (4, .pb d2 0 0), (5, .pb d3 0 0)] rfl rfl rfl ?_
  refine U_reg ?_
  simp only [SQ, ty66, s6.b 0 rfl, s6.b 1 rfl, n1, n2, n3, n4, n5, n6]
  refine N_put 1 s6 rfl fun H7 s7 => ?_
  simp only [SQ, n1, n2, n3, n4, n5, n6]
  refine hold_intro ?_
  refine U_ret ?_
  replace h := Option.some.inj h
  subst h
  refine ⟨.agg [.int .i64 r1.op, .int .i64 r2.kind, .int .i64 r2.cls, .int .i64 r2.n, .int .i64 r2.tag, .sim (r3.map eOpd) false, .str r1.name, .int .i64 r1.off, .sim (r1.labels.map eStr) false, .sim (r1.cases.map eInt) false], by simp only [ires, iress, Try.results43, SQ, List.toList_toArray, s7.b 1 rfl, ty66, n1, n2, n3, n4, n5, n6], ?_⟩
  exact Fz_agg (.cons (.cl (closed_int _ _)) (.cons (.cl (closed_int _ _)) (.cons (.cl (closed_int _ _)) (.cons (.cl (closed_int _ _)) (.cons (.cl (closed_int _ _)) (.cons (.cl (cl_map cl_eOpd r3)) (.cons (.cl (closed_str _)) (.cons (.cl (closed_int _ _)) (.cons (.cl (cl_map cl_eStr r1.labels)) (.cons (.cl (cl_map cl_eInt r1.cases)) (.nil)))))))))))

theorem w_ir_Map_at_ir_Copy_1 {fuel : Nat} {f_1 : Fnc} {r0_ : Fnc} (h : p_ir_Map_at_ir_Copy_1 fuel f_1 = some r0_) : Pure1 Try.prog 37 [.agg (eFnc f_1), .fn (.func 98) [] []] (.agg (eFnc r0_)) := by
  refine Pure1_S (all_cl (cl_agg (cl_eFnc _)) (all_cl (closed_fn _) all_cl0)) fun F H s0 => ?_
  refine U_call 0 Try.func37 rfl (by kernel_rfl) (by simp [Try.ntmps37]) ?_
  rw [Try.ntmps37]
  refine U_fr 67 [(0, .agg (eFnc f_1)), (1, .fn (.func 98) [] [])] rfl rfl rfl ?_
  unfold p_ir_Map_at_ir_Copy_1 at h
  refine U_seq ?_
  refine U_reg ?_
  simp only [SQ, ty26, sFnc, n1, n2, n3, n4, n5, n6]
  refine N_box s0 rfl fun d1 H1 s1 => ?_
  simp only [SQ, ty26, n1, n2, n3, n4, n5, n6]
  refine N_box s1 rfl fun d2 H2 s2 => ?_
  simp only [SQ, n1, n2, n3, n4, n5, n6]
  refine hold_intro ?_
  refine U_seq ?_
  refine U_reg ?_
  simp only [SQ, ty26, s2.b 1 rfl, sFnc, n1, n2, n3, n4, n5, n6]
  refine N_box s2 rfl fun d3 H3 s3 => ?_
  simp only [SQ, ty26, sFnc, splice_all', s3.b 0 rfl, n1, n2, n3, n4, n5, n6]
  refine N_put 0 s3 rfl fun H4 s4 => ?_
  simp only [SQ, n1, n2, n3, n4, n5, n6]
  refine hold_intro ?_
  refine U_seq ?_
  obtain ⟨r1, kr1, h⟩ := bndO h
  refine U_reg ?_
  simp only [SQ, ty26, ty22, s4.b 2 rfl, sFnc, n1, n2, n3, n4, n5, n6]
  refine callP (w_slices_Clone_api_Reg_api_Reg kr1) ?_
  simp only [SQ, ty26, ty22, sFnc, s4.b 0 rfl, n1, n2, n3, n4, n5, n6]
  refine N_put 0 s4 rfl fun H5 s5 => ?_
  simp only [SQ, n1, n2, n3, n4, n5, n6]
  refine hold_intro ?_
  refine U_seq ?_
  obtain ⟨r2, kr2, h⟩ := bndO h
  refine U_reg ?_
  simp only [SQ, ty26, ty23, s5.b 2 rfl, sFnc, n1, n2, n3, n4, n5, n6]
  refine callP (w_ir_turned_at_ir_Copy_1 kr2) ?_
  simp only [SQ, ty26, ty23, s5.b 0 rfl, n1, n2, n3, n4, n5, n6]
  refine N_put 0 s5 rfl fun H6 s6 => ?_
  simp only [SQ, n1, n2, n3, n4, n5, n6]
  refine hold_intro ?_
  refine U_seq ?_
  refine U_fr 67 [(1, .fn (.func 98) [] []), (2, .pb d1 0 0), (4, .pb d2 0 0), (5, .pb d3 0 0)] rfl rfl rfl ?_
  obtain ⟨l1, kl1, h⟩ := bndO h
  refine U_reg ?_
  simp only [SQ, ty26, ty24, s6.b 2 rfl, sFnc, len_sim ty24 rfl, ty63, imk_zero (d := 24) ty24 rfl ty63 rfl rfl (by decide) kl1, n1, n2, n3, n4, n5, n6]
  refine N_lit s6 rfl fun d4 H7 s7 => ?_
  simp only [SQ, ty26, ty24, s7.b 1 rfl, n1, n2, n3, n4, n5, n6]
  refine N_put 1 s7 rfl fun H8 s8 => ?_
  simp only [SQ, n1, n2, n3, n4, n5, n6]
  refine hold_intro ?_
  refine U_fr 67 [(1, .fn (.func 98) [] []), (2, .pb d1 0 0), (4, .pb d2 0 0), (5, .pb d3 0 0)] rfl rfl rfl ?_
  refine U_rowsN (f := eBl) (fl := true) (hm := fun _ => rfl) (hc := cl_eBl) l1 0 s8 rfl rfl rfl (rowsN_mk kl1 (.s (.s (.x .n (.x .n .nil))))) fun H9 s9 => ?_
  refine U_seq ?_
  refine U_seq ?_
  refine U_reg ?_
  simp only [SQ, ty26, ty24, s9.b 3 rfl, sFnc, len_sim ty24 rfl, n1, n2, n3, n4, n5, n6]
  refine hold_intro ?_
  refine U_fr 67 [(1, .fn (.func 98) [] []), (4, .pb d2 0 0), (5, .pb d3 0 0), (27, .sim (f_1.blocks.map eBl) false), (28, .int .i64 (f_1.blocks.length : Int)), (29, .int .i64 0)] rfl rfl rfl ?_
  obtain ⟨u1, he1, h⟩ := bndE h
  refine U_cut (fun a' H' => ∃ x_1 : Int, ∃ c1 : List Bl, u1 = .n (x_1, c1) ∧ Fi a' 67 [(1, .fn (.func 98) [] []), (4, .pb d2 0 0), (5, .pb d3 0 0)] ∧ HS F [pt d2 ⟨5, [[.bool false, .str (⟨#[]⟩ : ByteArray), .nils, .nils, .nils]]⟩, pt d3 ⟨5, [[.bool f_1.machine, .str f_1.name, .sim (r1.map eRg) false, .sim (r2.map eOpd) false, .sb d4 0 l1.length true]]⟩, sl R63i (.sb d4 0 l1.length true) c1] H') (U_block (U_loop (fun z_ a' H' => match z_ with | (m1, x_1, c1) => loopE m1 (fun s => p_ir_Map_at_ir_Copy_1_b1 fuel f_1 s.1 s.2) (x_1, c1) = some u1 ∧ Fi a' 67 [(1, .fn (.func 98) [] []), (4, .pb d2 0 0), (5, .pb d3 0 0), (27, .sim (f_1.blocks.map eBl) false), (28, .int .i64 (f_1.blocks.length : Int)), (29, .int .i64 x_1)] ∧ HS F [pt d2 ⟨5, [[.bool false, .str (⟨#[]⟩ : ByteArray), .nils, .nils, .nils]]⟩, pt d3 ⟨5, [[.bool f_1.machine, .str f_1.name, .sim (r1.map eRg) false, .sim (r2.map eOpd) false, .sb d4 0 l1.length true]]⟩, sl R63i (.sb d4 0 l1.length true) c1] H' : (Nat × Int × (List Bl)) → Fr → Heap → Prop) (fun z_ : Nat × Int × (List Bl) => z_.1) (fuel, 0, l1) ?_ ?_)) ?_
  · exact ⟨he1, ⟨rfl, rfl, rfl⟩, s9.sel [2, 1, 0] (by decide)⟩
  ·
    rintro ⟨m1, x_1, c1⟩ a1 H10 ⟨hf1, f1, s10⟩
    refine U_fi f1 ?_
    obtain ⟨m1', m1_lt, u2, hr1, hl2⟩ := loopE_step hf1
    replace hr1 : p_ir_Map_at_ir_Copy_1_b1 fuel f_1 x_1 c1 = some u2 := hr1
    unfold p_ir_Map_at_ir_Copy_1_b1 at hr1
    refine U_seq ?_
    refine U_reg ?_
    simp only [SQ, n1, n2, n3, n4, n5, n6]
    refine hold_intro ?_
    refine U_seq ?_
    rcases Bool.eq_false_or_eq_true (decide (x_1 < (f_1.blocks.length : Int))) with hb1 | hb1
    ·
      rw [if_pos hb1] at hr1
      refine U_condT (by simp only [SQ, hb1, n1, n2, n3, n4, n5, n6]) ?_
      refine U_skip ?_
      refine U_seq ?_
      refine U_block ?_
      refine U_seq ?_
      obtain ⟨x1, kx1, hr1⟩ := bndO hr1
      refine U_reg ?_
      simp only [SQ, ty24, ty63, iia_sim (f := eBl) ty24 rfl ty63 kx1 rfl, row_sim (f := eBl) kx1, sBl, hb1, n1, n2, n3, n4, n5, n6]
      refine N_box s10 rfl fun d5 H11 s11 => ?_
      simp only [SQ, ty63, sBl, splice_all', s11.b 0 rfl, hb1, n1, n2, n3, n4, n5, n6]
      refine N_put 0 s11 rfl fun H12 s12 => ?_
      simp only [SQ, hb1, n1, n2, n3, n4, n5, n6]
      refine hold_intro ?_
      refine U_seq ?_
      refine U_fr 67 [(1, .fn (.func 98) [] []), (4, .pb d2 0 0), (5, .pb d3 0 0), (6, .int .i64 x_1), (7, .pb d5 0 0), (27, .sim (f_1.blocks.map eBl) false), (28, .int .i64 (f_1.blocks.length : Int)), (29, .int .i64 x_1)] rfl rfl rfl ?_
      obtain ⟨r3, kr3, hr1⟩ := bndO hr1
      refine U_reg ?_
      simp only [SQ, ty63, ty23, s12.b 0 rfl, sBl, hb1, n1, n2, n3, n4, n5, n6]
      refine callP (w_ir_turned_at_ir_Copy_1 kr3) ?_
      simp only [SQ, ty63, ty23, sBl, s12.b 0 rfl, hb1, n1, n2, n3, n4, n5, n6]
      refine N_put 0 s12 rfl fun H13 s13 => ?_
      simp only [SQ, hb1, n1, n2, n3, n4, n5, n6]
      refine hold_intro ?_
      refine U_seq ?_
      obtain ⟨l2, kl2, hr1⟩ := bndO hr1
      refine U_reg ?_
      simp only [SQ, ty63, ty61, s13.b 0 rfl, len_sim ty61 rfl, ty66, imk_zero (d := 42) ty61 rfl ty66 rfl rfl (by decide) kl2, hb1, n1, n2, n3, n4, n5, n6]
      refine N_lit s13 rfl fun d6 H14 s14 => ?_
      simp only [SQ, hb1, n1, n2, n3, n4, n5, n6]
      refine hold_intro ?_
      refine U_fr 67 [(1, .fn (.func 98) [] []), (4, .pb d2 0 0), (5, .pb d3 0 0), (6, .int .i64 x_1), (7, .pb d5 0 0), (8, .sb d6 0 l2.length true), (27, .sim (f_1.blocks.map eBl) false), (28, .int .i64 (f_1.blocks.length : Int)), (29, .int .i64 x_1)] rfl rfl rfl ?_
      refine U_rowsN (f := eIns) (fl := true) (hm := fun _ => rfl) (hc := cl_eIns) l2 0 s14 rfl rfl rfl (rowsN_mk kl2 (.s (.s (.s (.s (.s (.x .n (.s (.s (.x .n (.x .n .nil))))))))))) fun H15 s15 => ?_
      refine U_seq ?_
      refine U_seq ?_
      refine U_reg ?_
      simp only [SQ, ty63, ty61, s15.b 1 rfl, len_sim ty61 rfl, hb1, n1, n2, n3, n4, n5, n6]
      refine hold_intro ?_
      refine U_fr 67 [(1, .fn (.func 98) [] []), (4, .pb d2 0 0), (5, .pb d3 0 0), (6, .int .i64 x_1), (7, .pb d5 0 0), (8, .sb d6 0 l2.length true), (27, .sim (f_1.blocks.map eBl) false), (28, .int .i64 (f_1.blocks.length : Int)), (29, .int .i64 x_1), (44, .sim (x1.code.map eIns) false), (45, .int .i64 (x1.code.length : Int)), (46, .int .i64 0)] rfl rfl rfl ?_
      obtain ⟨u3, he2, hr1⟩ := bndE hr1
      refine U_cut (fun a' H' => ∃ x_3 : Int, ∃ code_1 : List Ins, u3 = .n (x_3, code_1) ∧ Fi a' 67 [(1, .fn (.func 98) [] []), (4, .pb d2 0 0), (5, .pb d3 0 0), (6, .int .i64 x_1), (7, .pb d5 0 0), (8, .sb d6 0 l2.length true), (27, .sim (f_1.blocks.map eBl) false), (28, .int .i64 (f_1.blocks.length : Int)), (29, .int .i64 x_1)] ∧ HS F [pt d2 ⟨5, [[.bool false, .str (⟨#[]⟩ : ByteArray), .nils, .nils, .nils]]⟩, pt d3 ⟨5, [[.bool f_1.machine, .str f_1.name, .sim (r1.map eRg) false, .sim (r2.map eOpd) false, .sb d4 0 l1.length true]]⟩, sl R63i (.sb d4 0 l1.length true) c1, pt d5 ⟨4, [[.str x1.label, .bool x1.edge, .sim (r3.map eOpd) false, .sim (x1.code.map eIns) false]]⟩, sl R66i (.sb d6 0 l2.length true) code_1] H') (U_block (U_loop (fun z_ a' H' => match z_ with | (m2, x_3, code_1) => loopE m2 (fun s => p_ir_Map_at_ir_Copy_1_b2 fuel x1 s.1 s.2) (x_3, code_1) = some u3 ∧ Fi a' 67 [(1, .fn (.func 98) [] []), (4, .pb d2 0 0), (5, .pb d3 0 0), (6, .int .i64 x_1), (7, .pb d5 0 0), (8, .sb d6 0 l2.length true), (27, .sim (f_1.blocks.map eBl) false), (28, .int .i64 (f_1.blocks.length : Int)), (29, .int .i64 x_1), (44, .sim (x1.code.map eIns) false), (45, .int .i64 (x1.code.length : Int)), (46, .int .i64 x_3)] ∧ HS F [pt d2 ⟨5, [[.bool false, .str (⟨#[]⟩ : ByteArray), .nils, .nils, .nils]]⟩, pt d3 ⟨5, [[.bool f_1.machine, .str f_1.name, .sim (r1.map eRg) false, .sim (r2.map eOpd) false, .sb d4 0 l1.length true]]⟩, sl R63i (.sb d4 0 l1.length true) c1, pt d5 ⟨4, [[.str x1.label, .bool x1.edge, .sim (r3.map eOpd) false, .sim (x1.code.map eIns) false]]⟩, sl R66i (.sb d6 0 l2.length true) code_1] H' : (Nat × Int × (List Ins)) → Fr → Heap → Prop) (fun z_ : Nat × Int × (List Ins) => z_.1) (fuel, 0, l2) ?_ ?_)) ?_
      · exact ⟨he2, ⟨rfl, rfl, by first | rfl | simp only [SQ, hb1, n1, n2, n3, n4, n5, n6]⟩, s15.sel [2, 3, 4, 1, 0] (by decide)⟩
      ·
        rintro ⟨m2, x_3, code_1⟩ a2 H16 ⟨hf2, f2, s16⟩
        refine U_fi f2 ?_
        obtain ⟨m2', m2_lt, u4, hr2, hl4⟩ := loopE_step hf2
        replace hr2 : p_ir_Map_at_ir_Copy_1_b2 fuel x1 x_3 code_1 = some u4 := hr2
        unfold p_ir_Map_at_ir_Copy_1_b2 at hr2
        refine U_seq ?_
        refine U_reg ?_
        simp only [SQ, hb1, n1, n2, n3, n4, n5, n6]
        refine hold_intro ?_
        refine U_seq ?_
        rcases Bool.eq_false_or_eq_true (decide (x_3 < (x1.code.length : Int))) with hb2 | hb2
        ·
          rw [if_pos hb2] at hr2
          refine U_condT (by simp only [SQ, hb1, hb2, n1, n2, n3, n4, n5, n6]) ?_
          refine U_skip ?_
          refine U_seq ?_
          refine U_block ?_
          refine U_seq ?_
          obtain ⟨x2, kx2, hr2⟩ := bndO hr2
          refine U_reg ?_
          simp only [SQ, ty61, ty66, iia_sim (f := eIns) ty61 rfl ty66 kx2 rfl, row_sim (f := eIns) kx2, sIns, hb1, hb2, n1, n2, n3, n4, n5, n6]
          refine N_box s16 rfl fun d7 H17 s17 => ?_
          simp only [SQ, ty66, sIns, splice_all', s17.b 0 rfl, hb1, hb2, n1, n2, n3, n4, n5, n6]
          refine N_put 0 s17 rfl fun H18 s18 => ?_
          simp only [SQ, hb1, hb2, n1, n2, n3, n4, n5, n6]
          refine hold_intro ?_
          obtain ⟨r4, kr4, hr2⟩ := bndO hr2
          obtain ⟨x3, kx3, hr2⟩ := bndO hr2
          obtain ⟨l3, kl3, hr2⟩ := bndO hr2
          refine U_reg ?_
          simp only [SQ, ty66, s18.b 0 rfl, sIns, hb1, hb2, n1, n2, n3, n4, n5, n6]
          refine callP (w_ir_MapInstr_at_ir_Copy_1 kr4) ?_
          obtain ⟨w1_i, w1_r, w1_a, w1_1⟩ := s18.at (P := Try.prog) (k := .i64) 5 rfl ty61 rfl ty66 rfl kx3
          simp only [SQ, ty61, ty66, w1_1, hb1, hb2, n1, n2, n3, n4, n5, n6]
          refine N_st (y := r4) 5 s18 rfl w1_a kx3 ty66 rfl (by first | rfl | simp only [SQ, sIns, splice_all', hb1, hb2, n1, n2, n3, n4, n5, n6]) (by first | decide | simp only [SQ, sIns, splice_all', hb1, hb2, n1, n2, n3, n4, n5, n6] <;> decide) (by simp only [SQ, sIns, splice_all', hb1, hb2, n1, n2, n3, n4, n5, n6]) (by first | rfl | simp only [SQ, sIns, splice_all', hb1, hb2, n1, n2, n3, n4, n5, n6] <;> rfl) kl3 fun H19 s19 => ?_
          simp only [SQ, hb1, hb2, n1, n2, n3, n4, n5, n6]
          refine hold_intro ?_
          refine U_fr 67 [(1, .fn (.func 98) [] []), (4, .pb d2 0 0), (5, .pb d3 0 0), (6, .int .i64 x_1), (7, .pb d5 0 0), (8, .sb d6 0 l2.length true), (27, .sim (f_1.blocks.map eBl) false), (28, .int .i64 (f_1.blocks.length : Int)), (29, .int .i64 x_1), (44, .sim (x1.code.map eIns) false), (45, .int .i64 (x1.code.length : Int)), (46, .int .i64 x_3)] rfl rfl rfl ?_
          refine U_reg ?_
          simp only [SQ, hb1, hb2, n1, n2, n3, n4, n5, n6]
          refine hold_intro ?_
          replace hr2 := Option.some.inj hr2
          subst hr2
          exact ⟨(m2', IntKind.wrap .i64 (x_3 + 1), l3), m2_lt, hl4, ⟨rfl, rfl, by first | rfl | simp only [SQ, hb1, hb2, n1, n2, n3, n4, n5, n6]⟩, s19.sel [1, 2, 3, 4, 5] (by decide)⟩
        ·
          rw [if_neg (by rw [hb2]; decide)] at hr2
          refine U_condF (by simp only [SQ, hb1, hb2, n1, n2, n3, n4, n5, n6]) ?_
          refine U_exit rfl ?_
          replace hr2 := Option.some.inj hr2
          subst hr2
          exact ⟨_, _, hl4, ⟨rfl, rfl, by first | rfl | simp only [SQ, hb1, hb2, n1, n2, n3, n4, n5, n6]⟩, s16⟩
      ·
        rintro a3 H20 ⟨x_4, code_2, rfl, f3, s20⟩
        replace hr1 := outE_n hr1
        dsimp only at hr1
        refine U_fi f3 ?_
        refine U_seq ?_
        refine U_reg ?_
        simp only [SQ, ty63, ty61, s20.cf 4 rfl, s20.b 3 rfl, hb1, n1, n2, n3, n4, n5, n6]
        refine N_put 3 s20 rfl fun H21 s21 => ?_
        simp only [SQ, hb1, n1, n2, n3, n4, n5, n6]
        refine hold_intro ?_
        refine U_fr 67 [(1, .fn (.func 98) [] []), (4, .pb d2 0 0), (5, .pb d3 0 0), (6, .int .i64 x_1), (7, .pb d5 0 0), (27, .sim (f_1.blocks.map eBl) false), (28, .int .i64 (f_1.blocks.length : Int)), (29, .int .i64 x_1)] rfl rfl rfl ?_
        refine U_fzS (l' := [(1, .fn (.func 98) [] []), (4, .pb d2 0 0), (5, .pb d3 0 0), (6, .int .i64 x_1), (7, .pb d5 0 0), (27, .sim (f_1.blocks.map eBl) false), (28, .int .i64 (f_1.blocks.length : Int)), (29, .int .i64 x_1)]) (M := [pt d2 ⟨5, [[.bool false, .str (⟨#[]⟩ : ByteArray), .nils, .nils, .nils]]⟩, pt d3 ⟨5, [[.bool f_1.machine, .str f_1.name, .sim (r1.map eRg) false, .sim (r2.map eOpd) false, .sb d4 0 l1.length true]]⟩, sl R63i (.sb d4 0 l1.length true) c1, pt d5 ⟨4, [[.str x1.label, .bool x1.edge, .sim (r3.map eOpd) false, .sim (code_2.map eIns) false]]⟩]) 4 s21 rfl R66i_nl .id (.s (.s (.s (.r (.s (.s (.s (.x .o .id)))) .id)))) fun H22 s22 => ?_
        obtain ⟨x4, kx4, hr1⟩ := bndO hr1
        obtain ⟨l4, kl4, hr1⟩ := bndO hr1
        refine U_reg ?_
        obtain ⟨w2_i, w2_r, w2_a, w2_1⟩ := s22.at (P := Try.prog) (k := .i64) 2 rfl ty24 rfl ty63 rfl kx4
        simp only [SQ, ty26, ty24, s22.b 1 rfl, ty63, s22.b 3 rfl, w2_1, hb1, n1, n2, n3, n4, n5, n6]
        refine N_st (y := (⟨x1.label, x1.edge, r3, code_2⟩ : Bl)) 2 s22 rfl w2_a kx4 ty63 rfl (by first | rfl | simp only [SQ, sBl, hb1, n1, n2, n3, n4, n5, n6]) (by first | decide | simp only [SQ, sBl, hb1, n1, n2, n3, n4, n5, n6] <;> decide) (by simp only [SQ, sBl, hb1, n1, n2, n3, n4, n5, n6]) (by first | rfl | simp only [SQ, sBl, hb1, n1, n2, n3, n4, n5, n6] <;> rfl) kl4 fun H23 s23 => ?_
        simp only [SQ, hb1, n1, n2, n3, n4, n5, n6]
        refine hold_intro ?_
        refine U_reg ?_
        simp only [SQ, hb1, n1, n2, n3, n4, n5, n6]
        refine hold_intro ?_
        replace hr1 := Option.some.inj hr1
        subst hr1
        exact ⟨(m1', IntKind.wrap .i64 (x_1 + 1), l4), m1_lt, hl2, ⟨rfl, rfl, by first | rfl | simp only [SQ, hb1, n1, n2, n3, n4, n5, n6]⟩, s23.sel [0, 1, 2] (by decide)⟩
    ·
      rw [if_neg (by rw [hb1]; decide)] at hr1
      refine U_condF (by simp only [SQ, hb1, n1, n2, n3, n4, n5, n6]) ?_
      refine U_exit rfl ?_
      replace hr1 := Option.some.inj hr1
      subst hr1
      exact ⟨_, _, hl2, ⟨rfl, rfl, by first | rfl | simp only [SQ, hb1, n1, n2, n3, n4, n5, n6]⟩, s10⟩
  ·
    rintro a4 H24 ⟨x_2, c2, rfl, f4, s24⟩
    replace h := outE_n h
    dsimp only at h
    refine U_fi f4 ?_
    refine U_seq ?_
    refine U_reg ?_
    simp only [SQ, ty26, s24.b 1 rfl, s24.cf 2 rfl, s24.b 0 rfl, n1, n2, n3, n4, n5, n6]
    refine N_put 0 s24 rfl fun H25 s25 => ?_
    simp only [SQ, n1, n2, n3, n4, n5, n6]
    refine hold_intro ?_
    refine U_ret ?_
    replace h := Option.some.inj h
    subst h
    refine ⟨.agg [.bool f_1.machine, .str f_1.name, .sim (r1.map eRg) false, .sim (r2.map eOpd) false, .sb d4 0 l1.length true], by simp only [ires, iress, Try.results37, SQ, List.toList_toArray, s25.b 0 rfl, ty26, n1, n2, n3, n4, n5, n6], ?_⟩
    exact Fz_agg (.cons (.cl (closed_bool _)) (.cons (.cl (closed_str _)) (.cons (.cl (cl_map cl_eRg r1)) (.cons (.cl (cl_map cl_eOpd r2)) (.cons (s25.fzS 2 rfl) (.nil))))))

theorem w_ir_Copy {fuel : Nat} {f_1 : Fnc} {r0_ : Fnc} (h : p_ir_Copy fuel f_1 = some r0_) : Pure1 Try.prog 33 [.agg (eFnc f_1)] (.agg (eFnc r0_)) := by
  refine Pure1_S (all_cl (cl_agg (cl_eFnc _)) all_cl0) fun F H s0 => ?_
  refine U_call 0 Try.func33 rfl (by kernel_rfl) (by simp [Try.ntmps33]) ?_
  rw [Try.ntmps33]
  refine U_fr 5 [(0, .agg (eFnc f_1))] rfl rfl rfl ?_
  unfold p_ir_Copy at h
  refine U_seq ?_
  refine U_reg ?_
  simp only [SQ, ty26, sFnc, n1, n2, n3, n4, n5, n6]
  refine N_box s0 rfl fun d1 H1 s1 => ?_
  simp only [SQ, ty26, n1, n2, n3, n4, n5, n6]
  refine N_box s1 rfl fun d2 H2 s2 => ?_
  simp only [SQ, n1, n2, n3, n4, n5, n6]
  refine hold_intro ?_
  refine U_seq ?_
  obtain ⟨r1, kr1, h⟩ := bndO h
  refine U_reg ?_
  simp only [SQ, ty26, s2.b 1 rfl, sFnc, n1, n2, n3, n4, n5, n6]
  refine callP (w_ir_Map_at_ir_Copy_1 kr1) ?_
  simp only [SQ, ty26, sFnc, splice_all', s2.b 0 rfl, n1, n2, n3, n4, n5, n6]
  refine N_put 0 s2 rfl fun H3 s3 => ?_
  simp only [SQ, n1, n2, n3, n4, n5, n6]
  refine hold_intro ?_
  refine U_ret ?_
  replace h := Option.some.inj h
  subst h
  refine ⟨.agg (eFnc r1), by simp only [ires, iress, Try.results33, SQ, List.toList_toArray, s3.b 0 rfl, sFnc, ty26, n1, n2, n3, n4, n5, n6], ?_⟩
  exact .cl (cl_agg (cl_eFnc _))

theorem w_slices_Equal_api_Reg_api_Reg {fuel : Nat} {s1_1 : List Rg} {s2_1 : List Rg} {r0_ : Bool} (h : p_slices_Equal_api_Reg_api_Reg fuel s1_1 s2_1 = some r0_) : Pure1 Try.prog 110 [.sim (s1_1.map eRg) false, .sim (s2_1.map eRg) false] (.bool r0_) := by
  refine Pure1_S (all_cl (cl_map cl_eRg s1_1) (all_cl (cl_map cl_eRg s2_1) all_cl0)) fun F H s0 => ?_
  refine U_call 0 Try.func110 rfl (by kernel_rfl) (by simp [Try.ntmps110]) ?_
  rw [Try.ntmps110]
  refine U_fr 26 [(0, .sim (s1_1.map eRg) false), (1, .sim (s2_1.map eRg) false)] rfl rfl rfl ?_
  unfold p_slices_Equal_api_Reg_api_Reg at h
  refine U_seq ?_
  refine U_reg ?_
  simp only [SQ, n1, n2, n3, n4, n5, n6]
  refine hold_intro ?_
  refine U_seq ?_
  refine U_seq ?_
  refine U_reg ?_
  simp only [SQ, len_sim ty22 rfl, n1, n2, n3, n4, n5, n6]
  refine hold_intro ?_
  rcases Bool.eq_false_or_eq_true (decide ((s1_1.length : Int) ≠ (s2_1.length : Int))) with hb1 | hb1
  ·
    rw [if_pos hb1] at h
    refine U_condT (by simp only [SQ, hb1, n1, n2, n3, n4, n5, n6]) ?_
    refine U_seq ?_
    refine U_reg ?_
    simp only [SQ, hb1, n1, n2, n3, n4, n5, n6]
    refine hold_intro ?_
    refine U_ret ?_
    replace h := Option.some.inj h
    subst h
    refine ⟨.bool false, by simp only [ires, iress, Try.results110, SQ, List.toList_toArray, hb1, n1, n2, n3, n4, n5, n6], ?_⟩
    exact .cl (closed_bool _)
  ·
    rw [if_neg (by rw [hb1]; decide)] at h
    refine U_condF (by simp only [SQ, hb1, n1, n2, n3, n4, n5, n6]) ?_
    refine U_skip ?_
    refine U_seq ?_
    refine U_seq ?_
    refine U_reg ?_
    simp only [SQ, len_sim ty22 rfl, hb1, n1, n2, n3, n4, n5, n6]
    refine hold_intro ?_
    refine U_fr 26 [(0, .sim (s1_1.map eRg) false), (1, .sim (s2_1.map eRg) false), (12, .int .i64 (s1_1.length : Int)), (13, .int .i64 0)] rfl rfl rfl ?_
    obtain ⟨u1, he1, h⟩ := bndE h
    refine U_cut (fun a' H' => ∃ x_1 : Int, u1 = .n x_1 ∧ Fi a' 26 [] ∧ HS F [] H') (U_block (U_loop (fun z_ a' H' => match z_ with | (m1, x_1) => loopE m1 (fun s => p_slices_Equal_api_Reg_api_Reg_b1 fuel s1_1 s2_1 s) x_1 = some u1 ∧ Fi a' 26 [(0, .sim (s1_1.map eRg) false), (1, .sim (s2_1.map eRg) false), (12, .int .i64 (s1_1.length : Int)), (13, .int .i64 x_1)] ∧ HS F [] H' : (Nat × Int) → Fr → Heap → Prop) (fun z_ : Nat × Int => z_.1) (fuel, 0) ?_ ?_)) ?_
    · exact ⟨he1, ⟨rfl, rfl, by first | rfl | simp only [SQ, hb1, n1, n2, n3, n4, n5, n6]⟩, s0⟩
    ·
      rintro ⟨m1, x_1⟩ a1 H1 ⟨hf1, f1, s1⟩
      refine U_fi f1 ?_
      obtain ⟨m1', m1_lt, u2, hr1, hl2⟩ := loopE_step hf1
      replace hr1 : p_slices_Equal_api_Reg_api_Reg_b1 fuel s1_1 s2_1 x_1 = some u2 := hr1
      unfold p_slices_Equal_api_Reg_api_Reg_b1 at hr1
      refine U_seq ?_
      refine U_reg ?_
      simp only [SQ, hb1, n1, n2, n3, n4, n5, n6]
      refine hold_intro ?_
      refine U_seq ?_
      rcases Bool.eq_false_or_eq_true (decide (x_1 < (s1_1.length : Int))) with hb2 | hb2
      ·
        rw [if_pos hb2] at hr1
        refine U_condT (by simp only [SQ, hb1, hb2, n1, n2, n3, n4, n5, n6]) ?_
        refine U_skip ?_
        refine U_seq ?_
        refine U_block ?_
        refine U_seq ?_
        refine U_reg ?_
        simp only [SQ, hb1, hb2, n1, n2, n3, n4, n5, n6]
        refine hold_intro ?_
        refine U_seq ?_
        refine U_fr 26 [(0, .sim (s1_1.map eRg) false), (1, .sim (s2_1.map eRg) false), (5, .int .i64 x_1), (12, .int .i64 (s1_1.length : Int)), (13, .int .i64 x_1)] rfl rfl rfl ?_
        obtain ⟨x1, kx1, hr1⟩ := bndO hr1
        obtain ⟨x2, kx2, hr1⟩ := bndO hr1
        refine U_drawQ hm [0, 0, 3, 7, 0, 0, 48, 112, 255] false 8 (by decide +kernel) (by decide) ?_
        simp only [SQ, ty22, ty84, iia_sim (f := eRg) ty22 rfl ty84 kx1 rfl, row_sim (f := eRg) kx1, sRg, iia_sim (f := eRg) ty22 rfl ty84 kx2 rfl, row_sim (f := eRg) kx2, qRg, hb1, hb2, n1, n2, n3, n4, n5, n6]
        refine hold_intro ?_
        rcases Bool.eq_false_or_eq_true ((!decide (x1 = x2))) with hb3 | hb3
        ·
          rw [if_pos hb3] at hr1
          refine U_condT (by simp only [SQ, hb1, hb2, hb3, n1, n2, n3, n4, n5, n6]) ?_
          refine U_seq ?_
          refine U_reg ?_
          simp only [SQ, hb1, hb2, hb3, n1, n2, n3, n4, n5, n6]
          refine hold_intro ?_
          refine U_ret ?_
          replace hr1 := Option.some.inj hr1
          subst hr1
          replace hl2 : u1 = .r _ := hl2
          subst hl2
          replace h := outE_r h
          replace h := Option.some.inj h
          subst h
          refine ⟨.bool false, by simp only [ires, iress, Try.results110, SQ, List.toList_toArray, hb1, hb2, hb3, n1, n2, n3, n4, n5, n6], ?_⟩
          exact .cl (closed_bool _)
        ·
          rw [if_neg (by rw [hb3]; decide)] at hr1
          refine U_condF (by simp only [SQ, hb1, hb2, hb3, n1, n2, n3, n4, n5, n6]) ?_
          refine U_skip ?_
          refine U_reg ?_
          simp only [SQ, hb1, hb2, hb3, n1, n2, n3, n4, n5, n6]
          refine hold_intro ?_
          replace hr1 := Option.some.inj hr1
          subst hr1
          exact ⟨(m1', IntKind.wrap .i64 (x_1 + 1)), m1_lt, hl2, ⟨rfl, rfl, by first | rfl | simp only [SQ, hb1, hb2, hb3, n1, n2, n3, n4, n5, n6]⟩, s1⟩
      ·
        rw [if_neg (by rw [hb2]; decide)] at hr1
        refine U_condF (by simp only [SQ, hb1, hb2, n1, n2, n3, n4, n5, n6]) ?_
        refine U_exit rfl ?_
        replace hr1 := Option.some.inj hr1
        subst hr1
        exact ⟨_, hl2, ⟨rfl, rfl, by first | rfl | simp only [SQ, hb1, hb2, n1, n2, n3, n4, n5, n6]⟩, s1⟩
    ·
      rintro a2 H2 ⟨x_2, rfl, f2, s2⟩
      replace h := outE_n h
      refine U_fi f2 ?_
      refine U_seq ?_
      refine U_reg ?_
      simp only [SQ, hb1, n1, n2, n3, n4, n5, n6]
      refine hold_intro ?_
      refine U_ret ?_
      replace h := Option.some.inj h
      subst h
      refine ⟨.bool true, by simp only [ires, iress, Try.results110, SQ, List.toList_toArray, hb1, n1, n2, n3, n4, n5, n6], ?_⟩
      exact .cl (closed_bool _)

theorem w_slices_Equal_api_Operand_api_Operand {fuel : Nat} {s1_1 : List Opd} {s2_1 : List Opd} {r0_ : Bool} (h : p_slices_Equal_api_Operand_api_Operand fuel s1_1 s2_1 = some r0_) : Pure1 Try.prog 111 [.sim (s1_1.map eOpd) false, .sim (s2_1.map eOpd) false] (.bool r0_) := by
  refine Pure1_S (all_cl (cl_map cl_eOpd s1_1) (all_cl (cl_map cl_eOpd s2_1) all_cl0)) fun F H s0 => ?_
  refine U_call 0 Try.func111 rfl (by kernel_rfl) (by simp [Try.ntmps111]) ?_
  rw [Try.ntmps111]
  refine U_fr 26 [(0, .sim (s1_1.map eOpd) false), (1, .sim (s2_1.map eOpd) false)] rfl rfl rfl ?_
  unfold p_slices_Equal_api_Operand_api_Operand at h
  refine U_seq ?_
  refine U_reg ?_
  simp only [SQ, n1, n2, n3, n4, n5, n6]
  refine hold_intro ?_
  refine U_seq ?_
  refine U_seq ?_
  refine U_reg ?_
  simp only [SQ, len_sim ty23 rfl, n1, n2, n3, n4, n5, n6]
  refine hold_intro ?_
  rcases Bool.eq_false_or_eq_true (decide ((s1_1.length : Int) ≠ (s2_1.length : Int))) with hb1 | hb1
  ·
    rw [if_pos hb1] at h
    refine U_condT (by simp only [SQ, hb1, n1, n2, n3, n4, n5, n6]) ?_
    refine U_seq ?_
    refine U_reg ?_
    simp only [SQ, hb1, n1, n2, n3, n4, n5, n6]
    refine hold_intro ?_
    refine U_ret ?_
    replace h := Option.some.inj h
    subst h
    refine ⟨.bool false, by simp only [ires, iress, Try.results111, SQ, List.toList_toArray, hb1, n1, n2, n3, n4, n5, n6], ?_⟩
    exact .cl (closed_bool _)
  ·
    rw [if_neg (by rw [hb1]; decide)] at h
    refine U_condF (by simp only [SQ, hb1, n1, n2, n3, n4, n5, n6]) ?_
    refine U_skip ?_
    refine U_seq ?_
    refine U_seq ?_
    refine U_reg ?_
    simp only [SQ, len_sim ty23 rfl, hb1, n1, n2, n3, n4, n5, n6]
    refine hold_intro ?_
    refine U_fr 26 [(0, .sim (s1_1.map eOpd) false), (1, .sim (s2_1.map eOpd) false), (12, .int .i64 (s1_1.length : Int)), (13, .int .i64 0)] rfl rfl rfl ?_
    obtain ⟨u1, he1, h⟩ := bndE h
    refine U_cut (fun a' H' => ∃ x_1 : Int, u1 = .n x_1 ∧ Fi a' 26 [] ∧ HS F [] H') (U_block (U_loop (fun z_ a' H' => match z_ with | (m1, x_1) => loopE m1 (fun s => p_slices_Equal_api_Operand_api_Operand_b1 fuel s1_1 s2_1 s) x_1 = some u1 ∧ Fi a' 26 [(0, .sim (s1_1.map eOpd) false), (1, .sim (s2_1.map eOpd) false), (12, .int .i64 (s1_1.length : Int)), (13, .int .i64 x_1)] ∧ HS F [] H' : (Nat × Int) → Fr → Heap → Prop) (fun z_ : Nat × Int => z_.1) (fuel, 0) ?_ ?_)) ?_
    · exact ⟨he1, ⟨rfl, rfl, by first | rfl | simp only [SQ, hb1, n1, n2, n3, n4, n5, n6]⟩, s0⟩
    ·
      rintro ⟨m1, x_1⟩ a1 H1 ⟨hf1, f1, s1⟩
      refine U_fi f1 ?_
      obtain ⟨m1', m1_lt, u2, hr1, hl2⟩ := loopE_step hf1
      replace hr1 : p_slices_Equal_api_Operand_api_Operand_b1 fuel s1_1 s2_1 x_1 = some u2 := hr1
      unfold p_slices_Equal_api_Operand_api_Operand_b1 at hr1
      refine U_seq ?_
      refine U_reg ?_
      simp only [SQ, hb1, n1, n2, n3, n4, n5, n6]
      refine hold_intro ?_
      refine U_seq ?_
      rcases Bool.eq_false_or_eq_true (decide (x_1 < (s1_1.length : Int))) with hb2 | hb2
      ·
        rw [if_pos hb2] at hr1
        refine U_condT (by simp only [SQ, hb1, hb2, n1, n2, n3, n4, n5, n6]) ?_
        refine U_skip ?_
        refine U_seq ?_
        refine U_block ?_
        refine U_seq ?_
        refine U_reg ?_
        simp only [SQ, hb1, hb2, n1, n2, n3, n4, n5, n6]
        refine hold_intro ?_
        refine U_seq ?_
        refine U_fr 26 [(0, .sim (s1_1.map eOpd) false), (1, .sim (s2_1.map eOpd) false), (5, .int .i64 x_1), (12, .int .i64 (s1_1.length : Int)), (13, .int .i64 x_1)] rfl rfl rfl ?_
        obtain ⟨x1, kx1, hr1⟩ := bndO hr1
        obtain ⟨x2, kx2, hr1⟩ := bndO hr1
        refine U_drawQ hm [0, 0, 3, 7, 0, 0, 48, 112, 255] false 8 (by decide +kernel) (by decide) ?_
        simp only [SQ, ty23, ty58, iia_sim (f := eOpd) ty23 rfl ty58 kx1 rfl, row_sim (f := eOpd) kx1, sOpd, iia_sim (f := eOpd) ty23 rfl ty58 kx2 rfl, row_sim (f := eOpd) kx2, qOpd, hb1, hb2, n1, n2, n3, n4, n5, n6]
        refine hold_intro ?_
        rcases Bool.eq_false_or_eq_true ((!decide (x1 = x2))) with hb3 | hb3
        ·
          rw [if_pos hb3] at hr1
          refine U_condT (by simp only [SQ, hb1, hb2, hb3, n1, n2, n3, n4, n5, n6]) ?_
          refine U_seq ?_
          refine U_reg ?_
          simp only [SQ, hb1, hb2, hb3, n1, n2, n3, n4, n5, n6]
          refine hold_intro ?_
          refine U_ret ?_
          replace hr1 := Option.some.inj hr1
          subst hr1
          replace hl2 : u1 = .r _ := hl2
          subst hl2
          replace h := outE_r h
          replace h := Option.some.inj h
          subst h
          refine ⟨.bool false, by simp only [ires, iress, Try.results111, SQ, List.toList_toArray, hb1, hb2, hb3, n1, n2, n3, n4, n5, n6], ?_⟩
          exact .cl (closed_bool _)
        ·
          rw [if_neg (by rw [hb3]; decide)] at hr1
          refine U_condF (by simp only [SQ, hb1, hb2, hb3, n1, n2, n3, n4, n5, n6]) ?_
          refine U_skip ?_
          refine U_reg ?_
          simp only [SQ, hb1, hb2, hb3, n1, n2, n3, n4, n5, n6]
          refine hold_intro ?_
          replace hr1 := Option.some.inj hr1
          subst hr1
          exact ⟨(m1', IntKind.wrap .i64 (x_1 + 1)), m1_lt, hl2, ⟨rfl, rfl, by first | rfl | simp only [SQ, hb1, hb2, hb3, n1, n2, n3, n4, n5, n6]⟩, s1⟩
      ·
        rw [if_neg (by rw [hb2]; decide)] at hr1
        refine U_condF (by simp only [SQ, hb1, hb2, n1, n2, n3, n4, n5, n6]) ?_
        refine U_exit rfl ?_
        replace hr1 := Option.some.inj hr1
        subst hr1
        exact ⟨_, hl2, ⟨rfl, rfl, by first | rfl | simp only [SQ, hb1, hb2, n1, n2, n3, n4, n5, n6]⟩, s1⟩
    ·
      rintro a2 H2 ⟨x_2, rfl, f2, s2⟩
      replace h := outE_n h
      refine U_fi f2 ?_
      refine U_seq ?_
      refine U_reg ?_
      simp only [SQ, hb1, n1, n2, n3, n4, n5, n6]
      refine hold_intro ?_
      refine U_ret ?_
      replace h := Option.some.inj h
      subst h
      refine ⟨.bool true, by simp only [ires, iress, Try.results111, SQ, List.toList_toArray, hb1, n1, n2, n3, n4, n5, n6], ?_⟩
      exact .cl (closed_bool _)

theorem w_slices_Equal_string_string {fuel : Nat} {s1_1 : List ByteArray} {s2_1 : List ByteArray} {r0_ : Bool} (h : p_slices_Equal_string_string fuel s1_1 s2_1 = some r0_) : Pure1 Try.prog 136 [.sim (s1_1.map eStr) false, .sim (s2_1.map eStr) false] (.bool r0_) := by
  refine Pure1_S (all_cl (cl_map cl_eStr s1_1) (all_cl (cl_map cl_eStr s2_1) all_cl0)) fun F H s0 => ?_
  refine U_call 0 Try.func136 rfl (by kernel_rfl) (by simp [Try.ntmps136]) ?_
  rw [Try.ntmps136]
  refine U_fr 26 [(0, .sim (s1_1.map eStr) false), (1, .sim (s2_1.map eStr) false)] rfl rfl rfl ?_
  unfold p_slices_Equal_string_string at h
  refine U_seq ?_
  refine U_reg ?_
  simp only [SQ, n1, n2, n3, n4, n5, n6]
  refine hold_intro ?_
  refine U_seq ?_
  refine U_seq ?_
  refine U_reg ?_
  simp only [SQ, len_sim ty64 rfl, n1, n2, n3, n4, n5, n6]
  refine hold_intro ?_
  rcases Bool.eq_false_or_eq_true (decide ((s1_1.length : Int) ≠ (s2_1.length : Int))) with hb1 | hb1
  ·
    rw [if_pos hb1] at h
    refine U_condT (by simp only [SQ, hb1, n1, n2, n3, n4, n5, n6]) ?_
    refine U_seq ?_
    refine U_reg ?_
    simp only [SQ, hb1, n1, n2, n3, n4, n5, n6]
    refine hold_intro ?_
    refine U_ret ?_
    replace h := Option.some.inj h
    subst h
    refine ⟨.bool false, by simp only [ires, iress, Try.results136, SQ, List.toList_toArray, hb1, n1, n2, n3, n4, n5, n6], ?_⟩
    exact .cl (closed_bool _)
  ·
    rw [if_neg (by rw [hb1]; decide)] at h
    refine U_condF (by simp only [SQ, hb1, n1, n2, n3, n4, n5, n6]) ?_
    refine U_skip ?_
    refine U_seq ?_
    refine U_seq ?_
    refine U_reg ?_
    simp only [SQ, len_sim ty64 rfl, hb1, n1, n2, n3, n4, n5, n6]
    refine hold_intro ?_
    refine U_fr 26 [(0, .sim (s1_1.map eStr) false), (1, .sim (s2_1.map eStr) false), (12, .int .i64 (s1_1.length : Int)), (13, .int .i64 0)] rfl rfl rfl ?_
    obtain ⟨u1, he1, h⟩ := bndE h
    refine U_cut (fun a' H' => ∃ x_1 : Int, u1 = .n x_1 ∧ Fi a' 26 [] ∧ HS F [] H') (U_block (U_loop (fun z_ a' H' => match z_ with | (m1, x_1) => loopE m1 (fun s => p_slices_Equal_string_string_b1 fuel s1_1 s2_1 s) x_1 = some u1 ∧ Fi a' 26 [(0, .sim (s1_1.map eStr) false), (1, .sim (s2_1.map eStr) false), (12, .int .i64 (s1_1.length : Int)), (13, .int .i64 x_1)] ∧ HS F [] H' : (Nat × Int) → Fr → Heap → Prop) (fun z_ : Nat × Int => z_.1) (fuel, 0) ?_ ?_)) ?_
    · exact ⟨he1, ⟨rfl, rfl, by first | rfl | simp only [SQ, hb1, n1, n2, n3, n4, n5, n6]⟩, s0⟩
    ·
      rintro ⟨m1, x_1⟩ a1 H1 ⟨hf1, f1, s1⟩
      refine U_fi f1 ?_
      obtain ⟨m1', m1_lt, u2, hr1, hl2⟩ := loopE_step hf1
      replace hr1 : p_slices_Equal_string_string_b1 fuel s1_1 s2_1 x_1 = some u2 := hr1
      unfold p_slices_Equal_string_string_b1 at hr1
      refine U_seq ?_
      refine U_reg ?_
      simp only [SQ, hb1, n1, n2, n3, n4, n5, n6]
      refine hold_intro ?_
      refine U_seq ?_
      rcases Bool.eq_false_or_eq_true (decide (x_1 < (s1_1.length : Int))) with hb2 | hb2
      ·
        rw [if_pos hb2] at hr1
        refine U_condT (by simp only [SQ, hb1, hb2, n1, n2, n3, n4, n5, n6]) ?_
        refine U_skip ?_
        refine U_seq ?_
        refine U_block ?_
        refine U_seq ?_
        refine U_reg ?_
        simp only [SQ, hb1, hb2, n1, n2, n3, n4, n5, n6]
        refine hold_intro ?_
        refine U_seq ?_
        refine U_fr 26 [(0, .sim (s1_1.map eStr) false), (1, .sim (s2_1.map eStr) false), (5, .int .i64 x_1), (12, .int .i64 (s1_1.length : Int)), (13, .int .i64 x_1)] rfl rfl rfl ?_
        obtain ⟨x1, kx1, hr1⟩ := bndO hr1
        obtain ⟨x2, kx2, hr1⟩ := bndO hr1
        refine U_drawQ hm [0, 0, 3, 7, 0, 0, 48, 112, 255] false 8 (by decide +kernel) (by decide) ?_
        simp only [SQ, ty64, ty9, iia_sim (f := eStr) ty64 rfl ty9 kx1 rfl, row_sim (f := eStr) kx1, iia_sim (f := eStr) ty64 rfl ty9 kx2 rfl, row_sim (f := eStr) kx2, hb1, hb2, n1, n2, n3, n4, n5, n6]
        refine hold_intro ?_
        rcases Bool.eq_false_or_eq_true (decide (x1 ≠ x2)) with hb3 | hb3
        ·
          rw [if_pos hb3] at hr1
          refine U_condT (by simp only [SQ, hb1, hb2, hb3, n1, n2, n3, n4, n5, n6]) ?_
          refine U_seq ?_
          refine U_reg ?_
          simp only [SQ, hb1, hb2, hb3, n1, n2, n3, n4, n5, n6]
          refine hold_intro ?_
          refine U_ret ?_
          replace hr1 := Option.some.inj hr1
          subst hr1
          replace hl2 : u1 = .r _ := hl2
          subst hl2
          replace h := outE_r h
          replace h := Option.some.inj h
          subst h
          refine ⟨.bool false, by simp only [ires, iress, Try.results136, SQ, List.toList_toArray, hb1, hb2, hb3, n1, n2, n3, n4, n5, n6], ?_⟩
          exact .cl (closed_bool _)
        ·
          rw [if_neg (by rw [hb3]; decide)] at hr1
          refine U_condF (by simp only [SQ, hb1, hb2, hb3, n1, n2, n3, n4, n5, n6]) ?_
          refine U_skip ?_
          refine U_reg ?_
          simp only [SQ, hb1, hb2, hb3, n1, n2, n3, n4, n5, n6]
          refine hold_intro ?_
          replace hr1 := Option.some.inj hr1
          subst hr1
          exact ⟨(m1', IntKind.wrap .i64 (x_1 + 1)), m1_lt, hl2, ⟨rfl, rfl, by first | rfl | simp only [SQ, hb1, hb2, hb3, n1, n2, n3, n4, n5, n6]⟩, s1⟩
      ·
        rw [if_neg (by rw [hb2]; decide)] at hr1
        refine U_condF (by simp only [SQ, hb1, hb2, n1, n2, n3, n4, n5, n6]) ?_
        refine U_exit rfl ?_
        replace hr1 := Option.some.inj hr1
        subst hr1
        exact ⟨_, hl2, ⟨rfl, rfl, by first | rfl | simp only [SQ, hb1, hb2, n1, n2, n3, n4, n5, n6]⟩, s1⟩
    ·
      rintro a2 H2 ⟨x_2, rfl, f2, s2⟩
      replace h := outE_n h
      refine U_fi f2 ?_
      refine U_seq ?_
      refine U_reg ?_
      simp only [SQ, hb1, n1, n2, n3, n4, n5, n6]
      refine hold_intro ?_
      refine U_ret ?_
      replace h := Option.some.inj h
      subst h
      refine ⟨.bool true, by simp only [ires, iress, Try.results136, SQ, List.toList_toArray, hb1, n1, n2, n3, n4, n5, n6], ?_⟩
      exact .cl (closed_bool _)

theorem w_slices_Equal_int_int {fuel : Nat} {s1_1 : List Int} {s2_1 : List Int} {r0_ : Bool} (h : p_slices_Equal_int_int fuel s1_1 s2_1 = some r0_) : Pure1 Try.prog 115 [.sim (s1_1.map eInt) false, .sim (s2_1.map eInt) false] (.bool r0_) := by
  refine Pure1_S (all_cl (cl_map cl_eInt s1_1) (all_cl (cl_map cl_eInt s2_1) all_cl0)) fun F H s0 => ?_
  refine U_call 0 Try.func115 rfl (by kernel_rfl) (by simp [Try.ntmps115]) ?_
  rw [Try.ntmps115]
  refine U_fr 26 [(0, .sim (s1_1.map eInt) false), (1, .sim (s2_1.map eInt) false)] rfl rfl rfl ?_
  unfold p_slices_Equal_int_int at h
  refine U_seq ?_
  refine U_reg ?_
  simp only [SQ, n1, n2, n3, n4, n5, n6]
  refine hold_intro ?_
  refine U_seq ?_
  refine U_seq ?_
  refine U_reg ?_
  simp only [SQ, len_sim ty37 rfl, n1, n2, n3, n4, n5, n6]
  refine hold_intro ?_
  rcases Bool.eq_false_or_eq_true (decide ((s1_1.length : Int) ≠ (s2_1.length : Int))) with hb1 | hb1
  ·
    rw [if_pos hb1] at h
    refine U_condT (by simp only [SQ, hb1, n1, n2, n3, n4, n5, n6]) ?_
    refine U_seq ?_
    refine U_reg ?_
    simp only [SQ, hb1, n1, n2, n3, n4, n5, n6]
    refine hold_intro ?_
    refine U_ret ?_
    replace h := Option.some.inj h
    subst h
    refine ⟨.bool false, by simp only [ires, iress, Try.results115, SQ, List.toList_toArray, hb1, n1, n2, n3, n4, n5, n6], ?_⟩
    exact .cl (closed_bool _)
  ·
    rw [if_neg (by rw [hb1]; decide)] at h
    refine U_condF (by simp only [SQ, hb1, n1, n2, n3, n4, n5, n6]) ?_
    refine U_skip ?_
    refine U_seq ?_
    refine U_seq ?_
    refine U_reg ?_
    simp only [SQ, len_sim ty37 rfl, hb1, n1, n2, n3, n4, n5, n6]
    refine hold_intro ?_
    refine U_fr 26 [(0, .sim (s1_1.map eInt) false), (1, .sim (s2_1.map eInt) false), (12, .int .i64 (s1_1.length : Int)), (13, .int .i64 0)] rfl rfl rfl ?_
    obtain ⟨u1, he1, h⟩ := bndE h
    refine U_cut (fun a' H' => ∃ x_1 : Int, u1 = .n x_1 ∧ Fi a' 26 [] ∧ HS F [] H') (U_block (U_loop (fun z_ a' H' => match z_ with | (m1, x_1) => loopE m1 (fun s => p_slices_Equal_int_int_b1 fuel s1_1 s2_1 s) x_1 = some u1 ∧ Fi a' 26 [(0, .sim (s1_1.map eInt) false), (1, .sim (s2_1.map eInt) false), (12, .int .i64 (s1_1.length : Int)), (13, .int .i64 x_1)] ∧ HS F [] H' : (Nat × Int) → Fr → Heap → Prop) (fun z_ : Nat × Int => z_.1) (fuel, 0) ?_ ?_)) ?_
    · exact ⟨he1, ⟨rfl, rfl, by first | rfl | simp only [SQ, hb1, n1, n2, n3, n4, n5, n6]⟩, s0⟩
    ·
      rintro ⟨m1, x_1⟩ a1 H1 ⟨hf1, f1, s1⟩
      refine U_fi f1 ?_
      obtain ⟨m1', m1_lt, u2, hr1, hl2⟩ := loopE_step hf1
      replace hr1 : p_slices_Equal_int_int_b1 fuel s1_1 s2_1 x_1 = some u2 := hr1
      unfold p_slices_Equal_int_int_b1 at hr1
      refine U_seq ?_
      refine U_reg ?_
      simp only [SQ, hb1, n1, n2, n3, n4, n5, n6]
      refine hold_intro ?_
      refine U_seq ?_
      rcases Bool.eq_false_or_eq_true (decide (x_1 < (s1_1.length : Int))) with hb2 | hb2
      ·
        rw [if_pos hb2] at hr1
        refine U_condT (by simp only [SQ, hb1, hb2, n1, n2, n3, n4, n5, n6]) ?_
        refine U_skip ?_
        refine U_seq ?_
        refine U_block ?_
        refine U_seq ?_
        refine U_reg ?_
        simp only [SQ, hb1, hb2, n1, n2, n3, n4, n5, n6]
        refine hold_intro ?_
        refine U_seq ?_
        refine U_fr 26 [(0, .sim (s1_1.map eInt) false), (1, .sim (s2_1.map eInt) false), (5, .int .i64 x_1), (12, .int .i64 (s1_1.length : Int)), (13, .int .i64 x_1)] rfl rfl rfl ?_
        obtain ⟨x1, kx1, hr1⟩ := bndO hr1
        obtain ⟨x2, kx2, hr1⟩ := bndO hr1
        refine U_drawQ hm [0, 0, 3, 7, 0, 0, 48, 112, 255] false 8 (by decide +kernel) (by decide) ?_
        simp only [SQ, ty37, ty3, iia_sim (f := eInt) ty37 rfl ty3 kx1 rfl, row_sim (f := eInt) kx1, iia_sim (f := eInt) ty37 rfl ty3 kx2 rfl, row_sim (f := eInt) kx2, hb1, hb2, n1, n2, n3, n4, n5, n6]
        refine hold_intro ?_
        rcases Bool.eq_false_or_eq_true (decide (x1 ≠ x2)) with hb3 | hb3
        ·
          rw [if_pos hb3] at hr1
          refine U_condT (by simp only [SQ, hb1, hb2, hb3, n1, n2, n3, n4, n5, n6]) ?_
          refine U_seq ?_
          refine U_reg ?_
          simp only [SQ, hb1, hb2, hb3, n1, n2, n3, n4, n5, n6]
          refine hold_intro ?_
          refine U_ret ?_
          replace hr1 := Option.some.inj hr1
          subst hr1
          replace hl2 : u1 = .r _ := hl2
          subst hl2
          replace h := outE_r h
          replace h := Option.some.inj h
          subst h
          refine ⟨.bool false, by simp only [ires, iress, Try.results115, SQ, List.toList_toArray, hb1, hb2, hb3, n1, n2, n3, n4, n5, n6], ?_⟩
          exact .cl (closed_bool _)
        ·
          rw [if_neg (by rw [hb3]; decide)] at hr1
          refine U_condF (by simp only [SQ, hb1, hb2, hb3, n1, n2, n3, n4, n5, n6]) ?_
          refine U_skip ?_
          refine U_reg ?_
          simp only [SQ, hb1, hb2, hb3, n1, n2, n3, n4, n5, n6]
          refine hold_intro ?_
          replace hr1 := Option.some.inj hr1
          subst hr1
          exact ⟨(m1', IntKind.wrap .i64 (x_1 + 1)), m1_lt, hl2, ⟨rfl, rfl, by first | rfl | simp only [SQ, hb1, hb2, hb3, n1, n2, n3, n4, n5, n6]⟩, s1⟩
      ·
        rw [if_neg (by rw [hb2]; decide)] at hr1
        refine U_condF (by simp only [SQ, hb1, hb2, n1, n2, n3, n4, n5, n6]) ?_
        refine U_exit rfl ?_
        replace hr1 := Option.some.inj hr1
        subst hr1
        exact ⟨_, hl2, ⟨rfl, rfl, by first | rfl | simp only [SQ, hb1, hb2, n1, n2, n3, n4, n5, n6]⟩, s1⟩
    ·
      rintro a2 H2 ⟨x_2, rfl, f2, s2⟩
      replace h := outE_n h
      refine U_fi f2 ?_
      refine U_seq ?_
      refine U_reg ?_
      simp only [SQ, hb1, n1, n2, n3, n4, n5, n6]
      refine hold_intro ?_
      refine U_ret ?_
      replace h := Option.some.inj h
      subst h
      refine ⟨.bool true, by simp only [ires, iress, Try.results115, SQ, List.toList_toArray, hb1, n1, n2, n3, n4, n5, n6], ?_⟩
      exact .cl (closed_bool _)

theorem w_ir_SameInstr {fuel : Nat} {av_1 : Ins} {b_1 : Ins} {r0_ : Bool} (h : p_ir_SameInstr fuel av_1 b_1 = some r0_) : Pure1 Try.prog 96 [.agg (eIns av_1), .agg (eIns b_1)] (.bool r0_) := by
  refine Pure1_S (all_cl (cl_agg (cl_eIns _)) (all_cl (cl_agg (cl_eIns _)) all_cl0)) fun F H s0 => ?_
  refine U_call 0 Try.func96 rfl (by kernel_rfl) (by simp [Try.ntmps96]) ?_
  rw [Try.ntmps96]
  refine U_fr 52 [(0, .agg (eIns av_1)), (1, .agg (eIns b_1))] rfl rfl rfl ?_
  unfold p_ir_SameInstr at h
  refine U_seq ?_
  refine U_reg ?_
  simp only [SQ, ty66, sIns, n1, n2, n3, n4, n5, n6]
  refine N_box s0 rfl fun d1 H1 s1 => ?_
  simp only [SQ, ty66, sIns, n1, n2, n3, n4, n5, n6]
  refine N_box s1 rfl fun d2 H2 s2 => ?_
  simp only [SQ, n1, n2, n3, n4, n5, n6]
  refine hold_intro ?_
  refine U_seq ?_
  refine U_fr 52 [(2, .pb d1 0 0), (3, .pb d2 0 0), (4, .bool false)] rfl rfl rfl ?_
  obtain ⟨b1, kb1, h⟩ := bndO h
  obtain ⟨b2, kb2, h⟩ := bndO h
  obtain ⟨b3, kb3, h⟩ := bndO h
  refine U_cut (fun a' H' => Fi a' 52 [(4, .bool b3)] ∧ H2 = H') ?_ ?_
  · refine U_reg ?_
    rcases Bool.eq_false_or_eq_true (decide (av_1.op = b_1.op)) with hb1 | hb1
    ·
      rcases Bool.eq_false_or_eq_true (decide (av_1.dst = b_1.dst)) with hb2 | hb2
      ·
        rcases Bool.eq_false_or_eq_true (decide (av_1.name = b_1.name)) with hb3 | hb3
        ·
          rcases Bool.eq_false_or_eq_true (decide (av_1.off = b_1.off)) with hb4 | hb4
          ·
            have hx1 : ((((decide (av_1.op = b_1.op)) && (decide (av_1.dst = b_1.dst))) && (decide (av_1.name = b_1.name))) && (decide (av_1.off = b_1.off))) = true := by simp only [SQ, hb1, hb2, hb3, hb4]
            rw [if_pos hx1] at kb1
            obtain ⟨r1, kr1, kb1⟩ := bndO kb1
            have hq1 := (Option.some.inj kb1).symm
            rcases Bool.eq_false_or_eq_true (r1) with hb5 | hb5
            ·
              have hx2 : b1 = true := by simp only [SQ, hb1, hb2, hb3, hb4, hq1, hb5]
              rw [if_pos hx2] at kb2
              obtain ⟨r2, kr2, kb2⟩ := bndO kb2
              have hq2 := (Option.some.inj kb2).symm
              rcases Bool.eq_false_or_eq_true (r2) with hb6 | hb6
              ·
                have hx3 : b2 = true := by simp only [SQ, hb1, hb2, hb3, hb4, hq1, hb5, hq2, hb6]
                rw [if_pos hx3] at kb3
                obtain ⟨r3, kr3, kb3⟩ := bndO kb3
                have hq3 := (Option.some.inj kb3).symm
                simp only [SQ, ty66, ty3, s2.b 1 rfl, sIns, s2.b 0 rfl, ty58, sOpd, qOpd, ty9, ty23, hb1, hb2, hb3, hb4, hq1, hb5, hq2, hb6, hq3, n1, n2, n3, n4, n5, n6]
                refine callP (w_slices_Equal_api_Operand_api_Operand kr1) ?_
                simp only [SQ, ty66, ty64, s2.b 1 rfl, sIns, s2.b 0 rfl, hb1, hb2, hb3, hb4, hq1, hb5, hq2, hb6, hq3, n1, n2, n3, n4, n5, n6]
                refine callP (w_slices_Equal_string_string kr2) ?_
                simp only [SQ, ty66, ty37, s2.b 1 rfl, sIns, s2.b 0 rfl, hb1, hb2, hb3, hb4, hq1, hb5, hq2, hb6, hq3, n1, n2, n3, n4, n5, n6]
                refine callP (w_slices_Equal_int_int kr3) ?_
                simp only [SQ, hb1, hb2, hb3, hb4, hq1, hb5, hq2, hb6, hq3, n1, n2, n3, n4, n5, n6]
                refine hold_intro ?_
                exact ⟨⟨rfl, rfl, by first | rfl | simp only [SQ, hb1, hb2, hb3, hb4, hq1, hb5, hq2, hb6, hq3, n1, n2, n3, n4, n5, n6]⟩, rfl⟩
              ·
                have hx4 : b2 = false := by simp only [SQ, hb1, hb2, hb3, hb4, hq1, hb5, hq2, hb6]
                rw [if_neg (by rw [hx4]; decide)] at kb3
                have hq4 := (Option.some.inj kb3).symm
                simp only [SQ, ty66, ty3, s2.b 1 rfl, sIns, s2.b 0 rfl, ty58, sOpd, qOpd, ty9, ty23, hb1, hb2, hb3, hb4, hq1, hb5, hq2, hb6, hq4, n1, n2, n3, n4, n5, n6]
                refine callP (w_slices_Equal_api_Operand_api_Operand kr1) ?_
                simp only [SQ, ty66, ty64, s2.b 1 rfl, sIns, s2.b 0 rfl, hb1, hb2, hb3, hb4, hq1, hb5, hq2, hb6, hq4, n1, n2, n3, n4, n5, n6]
                refine callP (w_slices_Equal_string_string kr2) ?_
                simp only [SQ, hb1, hb2, hb3, hb4, hq1, hb5, hq2, hb6, hq4, n1, n2, n3, n4, n5, n6]
                refine hold_intro ?_
                exact ⟨⟨rfl, rfl, by first | rfl | simp only [SQ, hb1, hb2, hb3, hb4, hq1, hb5, hq2, hb6, hq4, n1, n2, n3, n4, n5, n6]⟩, rfl⟩
            ·
              have hx5 : b1 = false := by simp only [SQ, hb1, hb2, hb3, hb4, hq1, hb5]
              rw [if_neg (by rw [hx5]; decide)] at kb2
              have hq5 := (Option.some.inj kb2).symm
              have hx6 : b2 = false := by simp only [SQ, hb1, hb2, hb3, hb4, hq1, hb5, hq5]
              rw [if_neg (by rw [hx6]; decide)] at kb3
              have hq6 := (Option.some.inj kb3).symm
              simp only [SQ, ty66, ty3, s2.b 1 rfl, sIns, s2.b 0 rfl, ty58, sOpd, qOpd, ty9, ty23, hb1, hb2, hb3, hb4, hq1, hb5, hq5, hq6, n1, n2, n3, n4, n5, n6]
              refine callP (w_slices_Equal_api_Operand_api_Operand kr1) ?_
              simp only [SQ, hb1, hb2, hb3, hb4, hq1, hb5, hq5, hq6, n1, n2, n3, n4, n5, n6]
              refine hold_intro ?_
              exact ⟨⟨rfl, rfl, by first | rfl | simp only [SQ, hb1, hb2, hb3, hb4, hq1, hb5, hq5, hq6, n1, n2, n3, n4, n5, n6]⟩, rfl⟩
          ·
            have hx7 : ((((decide (av_1.op = b_1.op)) && (decide (av_1.dst = b_1.dst))) && (decide (av_1.name = b_1.name))) && (decide (av_1.off = b_1.off))) = false := by simp only [SQ, hb1, hb2, hb3, hb4]
            rw [if_neg (by rw [hx7]; decide)] at kb1
            have hq7 := (Option.some.inj kb1).symm
            have hx8 : b1 = false := by simp only [SQ, hb1, hb2, hb3, hb4, hq7]
            rw [if_neg (by rw [hx8]; decide)] at kb2
            have hq8 := (Option.some.inj kb2).symm
            have hx9 : b2 = false := by simp only [SQ, hb1, hb2, hb3, hb4, hq7, hq8]
            rw [if_neg (by rw [hx9]; decide)] at kb3
            have hq9 := (Option.some.inj kb3).symm
            simp only [SQ, ty66, ty3, s2.b 1 rfl, sIns, s2.b 0 rfl, ty58, sOpd, qOpd, ty9, hb1, hb2, hb3, hb4, hq7, hq8, hq9, n1, n2, n3, n4, n5, n6]
            refine hold_intro ?_
            exact ⟨⟨rfl, rfl, by first | rfl | simp only [SQ, hb1, hb2, hb3, hb4, hq7, hq8, hq9, n1, n2, n3, n4, n5, n6]⟩, rfl⟩
        ·
          have hx10 : ((((decide (av_1.op = b_1.op)) && (decide (av_1.dst = b_1.dst))) && (decide (av_1.name = b_1.name))) && (decide (av_1.off = b_1.off))) = false := by simp only [SQ, hb1, hb2, hb3]
          rw [if_neg (by rw [hx10]; decide)] at kb1
          have hq10 := (Option.some.inj kb1).symm
          have hx11 : b1 = false := by simp only [SQ, hb1, hb2, hb3, hq10]
          rw [if_neg (by rw [hx11]; decide)] at kb2
          have hq11 := (Option.some.inj kb2).symm
          have hx12 : b2 = false := by simp only [SQ, hb1, hb2, hb3, hq10, hq11]
          rw [if_neg (by rw [hx12]; decide)] at kb3
          have hq12 := (Option.some.inj kb3).symm
          simp only [SQ, ty66, ty3, s2.b 1 rfl, sIns, s2.b 0 rfl, ty58, sOpd, qOpd, ty9, hb1, hb2, hb3, hq10, hq11, hq12, n1, n2, n3, n4, n5, n6]
          refine hold_intro ?_
          exact ⟨⟨rfl, rfl, by first | rfl | simp only [SQ, hb1, hb2, hb3, hq10, hq11, hq12, n1, n2, n3, n4, n5, n6]⟩, rfl⟩
      ·
        have hx13 : ((((decide (av_1.op = b_1.op)) && (decide (av_1.dst = b_1.dst))) && (decide (av_1.name = b_1.name))) && (decide (av_1.off = b_1.off))) = false := by simp only [SQ, hb1, hb2]
        rw [if_neg (by rw [hx13]; decide)] at kb1
        have hq13 := (Option.some.inj kb1).symm
        have hx14 : b1 = false := by simp only [SQ, hb1, hb2, hq13]
        rw [if_neg (by rw [hx14]; decide)] at kb2
        have hq14 := (Option.some.inj kb2).symm
        have hx15 : b2 = false := by simp only [SQ, hb1, hb2, hq13, hq14]
        rw [if_neg (by rw [hx15]; decide)] at kb3
        have hq15 := (Option.some.inj kb3).symm
        simp only [SQ, ty66, ty3, s2.b 1 rfl, sIns, s2.b 0 rfl, ty58, sOpd, qOpd, hb1, hb2, hq13, hq14, hq15, n1, n2, n3, n4, n5, n6]
        refine hold_intro ?_
        exact ⟨⟨rfl, rfl, by first | rfl | simp only [SQ, hb1, hb2, hq13, hq14, hq15, n1, n2, n3, n4, n5, n6]⟩, rfl⟩
    ·
      have hx16 : ((((decide (av_1.op = b_1.op)) && (decide (av_1.dst = b_1.dst))) && (decide (av_1.name = b_1.name))) && (decide (av_1.off = b_1.off))) = false := by simp only [SQ, hb1]
      rw [if_neg (by rw [hx16]; decide)] at kb1
      have hq16 := (Option.some.inj kb1).symm
      have hx17 : b1 = false := by simp only [SQ, hb1, hq16]
      rw [if_neg (by rw [hx17]; decide)] at kb2
      have hq17 := (Option.some.inj kb2).symm
      have hx18 : b2 = false := by simp only [SQ, hb1, hq16, hq17]
      rw [if_neg (by rw [hx18]; decide)] at kb3
      have hq18 := (Option.some.inj kb3).symm
      simp only [SQ, ty66, ty3, s2.b 1 rfl, sIns, s2.b 0 rfl, hb1, hq16, hq17, hq18, n1, n2, n3, n4, n5, n6]
      refine hold_intro ?_
      exact ⟨⟨rfl, rfl, by first | rfl | simp only [SQ, hb1, hq16, hq17, hq18, n1, n2, n3, n4, n5, n6]⟩, rfl⟩
  · rintro a1 _ ⟨f1, rfl⟩
    refine U_fi f1 ?_
    refine U_ret ?_
    replace h := Option.some.inj h
    subst h
    refine ⟨.bool b3, by simp only [ires, iress, Try.results96, SQ, List.toList_toArray, n1, n2, n3, n4, n5, n6], ?_⟩
    exact .cl (closed_bool _)

theorem w_slices_EqualFunc_api_Instr_api_Instr_api_Instr_api_Instr_at_ir_SameInstr {fuel : Nat} {s1_1 : List Ins} {s2_1 : List Ins} {r0_ : Bool} (h : p_slices_EqualFunc_api_Instr_api_Instr_api_Instr_api_Instr_at_ir_SameInstr fuel s1_1 s2_1 = some r0_) : Pure1 Try.prog 138 [.sim (s1_1.map eIns) false, .sim (s2_1.map eIns) false, .fn (.func 96) [] []] (.bool r0_) := by
  refine Pure1_S (all_cl (cl_map cl_eIns s1_1) (all_cl (cl_map cl_eIns s2_1) (all_cl (closed_fn _) all_cl0))) fun F H s0 => ?_
  refine U_call 0 Try.func138 rfl (by kernel_rfl) (by simp [Try.ntmps138]) ?_
  rw [Try.ntmps138]
  refine U_fr 32 [(0, .sim (s1_1.map eIns) false), (1, .sim (s2_1.map eIns) false), (2, .fn (.func 96) [] [])] rfl rfl rfl ?_
  unfold p_slices_EqualFunc_api_Instr_api_Instr_api_Instr_api_Instr_at_ir_SameInstr at h
  refine U_seq ?_
  refine U_reg ?_
  simp only [SQ, n1, n2, n3, n4, n5, n6]
  refine hold_intro ?_
  refine U_seq ?_
  refine U_seq ?_
  refine U_reg ?_
  simp only [SQ, len_sim ty61 rfl, n1, n2, n3, n4, n5, n6]
  refine hold_intro ?_
  rcases Bool.eq_false_or_eq_true (decide ((s1_1.length : Int) ≠ (s2_1.length : Int))) with hb1 | hb1
  ·
    rw [if_pos hb1] at h
    refine U_condT (by simp only [SQ, hb1, n1, n2, n3, n4, n5, n6]) ?_
    refine U_seq ?_
    refine U_reg ?_
    simp only [SQ, hb1, n1, n2, n3, n4, n5, n6]
    refine hold_intro ?_
    refine U_ret ?_
    replace h := Option.some.inj h
    subst h
    refine ⟨.bool false, by simp only [ires, iress, Try.results138, SQ, List.toList_toArray, hb1, n1, n2, n3, n4, n5, n6], ?_⟩
    exact .cl (closed_bool _)
  ·
    rw [if_neg (by rw [hb1]; decide)] at h
    refine U_condF (by simp only [SQ, hb1, n1, n2, n3, n4, n5, n6]) ?_
    refine U_skip ?_
    refine U_seq ?_
    refine U_seq ?_
    refine U_reg ?_
    simp only [SQ, len_sim ty61 rfl, hb1, n1, n2, n3, n4, n5, n6]
    refine hold_intro ?_
    refine U_fr 32 [(1, .sim (s2_1.map eIns) false), (2, .fn (.func 96) [] []), (15, .sim (s1_1.map eIns) false), (16, .int .i64 (s1_1.length : Int)), (17, .int .i64 0)] rfl rfl rfl ?_
    obtain ⟨u1, he1, h⟩ := bndE h
    refine U_cut (fun a' H' => ∃ x_1 : Int, u1 = .n x_1 ∧ Fi a' 32 [(2, .fn (.func 96) [] [])] ∧ HS F [] H') (U_block (U_loop (fun z_ a' H' => match z_ with | (m1, x_1) => loopE m1 (fun s => p_slices_EqualFunc_api_Instr_api_Instr_api_Instr_api_Instr_at_ir_SameInstr_b1 fuel s1_1 s2_1 s) x_1 = some u1 ∧ Fi a' 32 [(1, .sim (s2_1.map eIns) false), (2, .fn (.func 96) [] []), (15, .sim (s1_1.map eIns) false), (16, .int .i64 (s1_1.length : Int)), (17, .int .i64 x_1)] ∧ HS F [] H' : (Nat × Int) → Fr → Heap → Prop) (fun z_ : Nat × Int => z_.1) (fuel, 0) ?_ ?_)) ?_
    · exact ⟨he1, ⟨rfl, rfl, by first | rfl | simp only [SQ, hb1, n1, n2, n3, n4, n5, n6]⟩, s0⟩
    ·
      rintro ⟨m1, x_1⟩ a1 H1 ⟨hf1, f1, s1⟩
      refine U_fi f1 ?_
      obtain ⟨m1', m1_lt, u2, hr1, hl2⟩ := loopE_step hf1
      replace hr1 : p_slices_EqualFunc_api_Instr_api_Instr_api_Instr_api_Instr_at_ir_SameInstr_b1 fuel s1_1 s2_1 x_1 = some u2 := hr1
      unfold p_slices_EqualFunc_api_Instr_api_Instr_api_Instr_api_Instr_at_ir_SameInstr_b1 at hr1
      refine U_seq ?_
      refine U_reg ?_
      simp only [SQ, hb1, n1, n2, n3, n4, n5, n6]
      refine hold_intro ?_
      refine U_seq ?_
      rcases Bool.eq_false_or_eq_true (decide (x_1 < (s1_1.length : Int))) with hb2 | hb2
      ·
        rw [if_pos hb2] at hr1
        refine U_condT (by simp only [SQ, hb1, hb2, n1, n2, n3, n4, n5, n6]) ?_
        refine U_skip ?_
        refine U_seq ?_
        refine U_block ?_
        refine U_seq ?_
        obtain ⟨x1, kx1, hr1⟩ := bndO hr1
        refine U_reg ?_
        simp only [SQ, ty61, ty66, iia_sim (f := eIns) ty61 rfl ty66 kx1 rfl, row_sim (f := eIns) kx1, sIns, hb1, hb2, n1, n2, n3, n4, n5, n6]
        refine N_box s1 rfl fun d1 H2 s2 => ?_
        simp only [SQ, ty66, sIns, splice_all', s2.b 0 rfl, hb1, hb2, n1, n2, n3, n4, n5, n6]
        refine N_put 0 s2 rfl fun H3 s3 => ?_
        simp only [SQ, hb1, hb2, n1, n2, n3, n4, n5, n6]
        refine hold_intro ?_
        refine U_seq ?_
        refine U_fr 32 [(1, .sim (s2_1.map eIns) false), (2, .fn (.func 96) [] []), (7, .int .i64 x_1), (8, .pb d1 0 0), (15, .sim (s1_1.map eIns) false), (16, .int .i64 (s1_1.length : Int)), (17, .int .i64 x_1)] rfl rfl rfl ?_
        obtain ⟨x2, kx2, hr1⟩ := bndO hr1
        refine U_reg ?_
        simp only [SQ, ty61, ty66, iia_sim (f := eIns) ty61 rfl ty66 kx2 rfl, row_sim (f := eIns) kx2, sIns, hb1, hb2, n1, n2, n3, n4, n5, n6]
        refine N_box s3 rfl fun d2 H4 s4 => ?_
        simp only [SQ, ty66, sIns, splice_all', s4.b 0 rfl, hb1, hb2, n1, n2, n3, n4, n5, n6]
        refine N_put 0 s4 rfl fun H5 s5 => ?_
        simp only [SQ, hb1, hb2, n1, n2, n3, n4, n5, n6]
        refine hold_intro ?_
        refine U_seq ?_
        obtain ⟨r1, kr1, hr1⟩ := bndO hr1
        refine U_reg ?_
        simp only [SQ, ty66, s5.b 1 rfl, sIns, s5.b 0 rfl, hb1, hb2, n1, n2, n3, n4, n5, n6]
        refine callP (w_ir_SameInstr kr1) ?_
        simp only [SQ, hb1, hb2, n1, n2, n3, n4, n5, n6]
        refine hold_intro ?_
        rcases Bool.eq_false_or_eq_true ((!r1)) with hb3 | hb3
        ·
          rw [if_pos hb3] at hr1
          refine U_condT (by simp only [SQ, hb1, hb2, hb3, n1, n2, n3, n4, n5, n6]) ?_
          refine U_seq ?_
          refine U_reg ?_
          simp only [SQ, hb1, hb2, hb3, n1, n2, n3, n4, n5, n6]
          refine hold_intro ?_
          refine U_ret ?_
          replace hr1 := Option.some.inj hr1
          subst hr1
          replace hl2 : u1 = .r _ := hl2
          subst hl2
          replace h := outE_r h
          replace h := Option.some.inj h
          subst h
          refine ⟨.bool false, by simp only [ires, iress, Try.results138, SQ, List.toList_toArray, hb1, hb2, hb3, n1, n2, n3, n4, n5, n6], ?_⟩
          exact .cl (closed_bool _)
        ·
          rw [if_neg (by rw [hb3]; decide)] at hr1
          refine U_condF (by simp only [SQ, hb1, hb2, hb3, n1, n2, n3, n4, n5, n6]) ?_
          refine U_skip ?_
          refine U_reg ?_
          simp only [SQ, hb1, hb2, hb3, n1, n2, n3, n4, n5, n6]
          refine hold_intro ?_
          replace hr1 := Option.some.inj hr1
          subst hr1
          exact ⟨(m1', IntKind.wrap .i64 (x_1 + 1)), m1_lt, hl2, ⟨rfl, rfl, by first | rfl | simp only [SQ, hb1, hb2, hb3, n1, n2, n3, n4, n5, n6]⟩, s5.sel [] (by decide)⟩
      ·
        rw [if_neg (by rw [hb2]; decide)] at hr1
        refine U_condF (by simp only [SQ, hb1, hb2, n1, n2, n3, n4, n5, n6]) ?_
        refine U_exit rfl ?_
        replace hr1 := Option.some.inj hr1
        subst hr1
        exact ⟨_, hl2, ⟨rfl, rfl, by first | rfl | simp only [SQ, hb1, hb2, n1, n2, n3, n4, n5, n6]⟩, s1⟩
    ·
      rintro a2 H6 ⟨x_2, rfl, f2, s6⟩
      replace h := outE_n h
      refine U_fi f2 ?_
      refine U_seq ?_
      refine U_reg ?_
      simp only [SQ, hb1, n1, n2, n3, n4, n5, n6]
      refine hold_intro ?_
      refine U_ret ?_
      replace h := Option.some.inj h
      subst h
      refine ⟨.bool true, by simp only [ires, iress, Try.results138, SQ, List.toList_toArray, hb1, n1, n2, n3, n4, n5, n6], ?_⟩
      exact .cl (closed_bool _)

theorem w_ir_sameBlock {fuel : Nat} {av_1 : Bl} {b_1 : Bl} {r0_ : Bool} (h : p_ir_sameBlock fuel av_1 b_1 = some r0_) : Pure1 Try.prog 113 [.agg (eBl av_1), .agg (eBl b_1)] (.bool r0_) := by
  refine Pure1_S (all_cl (cl_agg (cl_eBl _)) (all_cl (cl_agg (cl_eBl _)) all_cl0)) fun F H s0 => ?_
  refine U_call 0 Try.func113 rfl (by kernel_rfl) (by simp [Try.ntmps113]) ?_
  rw [Try.ntmps113]
  refine U_fr 31 [(0, .agg (eBl av_1)), (1, .agg (eBl b_1))] rfl rfl rfl ?_
  unfold p_ir_sameBlock at h
  refine U_seq ?_
  refine U_reg ?_
  simp only [SQ, ty63, sBl, n1, n2, n3, n4, n5, n6]
  refine N_box s0 rfl fun d1 H1 s1 => ?_
  simp only [SQ, ty63, sBl, n1, n2, n3, n4, n5, n6]
  refine N_box s1 rfl fun d2 H2 s2 => ?_
  simp only [SQ, n1, n2, n3, n4, n5, n6]
  refine hold_intro ?_
  refine U_seq ?_
  refine U_fr 31 [(2, .pb d1 0 0), (3, .pb d2 0 0), (4, .bool false)] rfl rfl rfl ?_
  obtain ⟨b1, kb1, h⟩ := bndO h
  obtain ⟨b2, kb2, h⟩ := bndO h
  refine U_cut (fun a' H' => Fi a' 31 [(4, .bool b2)] ∧ H2 = H') ?_ ?_
  · refine U_reg ?_
    rcases Bool.eq_false_or_eq_true (decide (av_1.label = b_1.label)) with hb1 | hb1
    ·
      rcases Bool.eq_false_or_eq_true (av_1.edge) with hb2 | hb2
      ·
        rcases Bool.eq_false_or_eq_true (b_1.edge) with hb3 | hb3
        ·
          have hx1 : ((decide (av_1.label = b_1.label)) && (av_1.edge == b_1.edge)) = true := by simp only [SQ, hb1, hb2, Bool.true_beq, Bool.false_beq, Bool.true_bne, Bool.false_bne, Bool.not_true, Bool.not_false, hb3, Bool.true_beq, Bool.false_beq, Bool.true_bne, Bool.false_bne, Bool.not_true, Bool.not_false]
          rw [if_pos hx1] at kb1
          obtain ⟨r1, kr1, kb1⟩ := bndO kb1
          have hq1 := (Option.some.inj kb1).symm
          rcases Bool.eq_false_or_eq_true (r1) with hb4 | hb4
          ·
            have hx2 : b1 = true := by simp only [SQ, hb1, hb2, Bool.true_beq, Bool.false_beq, Bool.true_bne, Bool.false_bne, Bool.not_true, Bool.not_false, hb3, Bool.true_beq, Bool.false_beq, Bool.true_bne, Bool.false_bne, Bool.not_true, Bool.not_false, hq1, hb4]
            rw [if_pos hx2] at kb2
            obtain ⟨r2, kr2, kb2⟩ := bndO kb2
            have hq2 := (Option.some.inj kb2).symm
            simp only [SQ, ty63, ty9, s2.b 1 rfl, sBl, s2.b 0 rfl, ty4, bin_bool (P := Try.prog) ty4 rfl, ty23, hb1, hb2, Bool.true_beq, Bool.false_beq, Bool.true_bne, Bool.false_bne, Bool.not_true, Bool.not_false, hb3, hq1, hb4, hq2, n1, n2, n3, n4, n5, n6]
            refine callP (w_slices_Equal_api_Operand_api_Operand kr1) ?_
            simp only [SQ, ty63, ty61, s2.b 1 rfl, sBl, s2.b 0 rfl, hb1, hb2, Bool.true_beq, Bool.false_beq, Bool.true_bne, Bool.false_bne, Bool.not_true, Bool.not_false, hb3, hq1, hb4, hq2, n1, n2, n3, n4, n5, n6]
            refine callP (w_slices_EqualFunc_api_Instr_api_Instr_api_Instr_api_Instr_at_ir_SameInstr kr2) ?_
            simp only [SQ, hb1, hb2, Bool.true_beq, Bool.false_beq, Bool.true_bne, Bool.false_bne, Bool.not_true, Bool.not_false, hb3, hq1, hb4, hq2, n1, n2, n3, n4, n5, n6]
            refine hold_intro ?_
            exact ⟨⟨rfl, rfl, by first | rfl | simp only [SQ, hb1, hb2, Bool.true_beq, Bool.false_beq, Bool.true_bne, Bool.false_bne, Bool.not_true, Bool.not_false, hb3, hq1, hb4, hq2, n1, n2, n3, n4, n5, n6]⟩, rfl⟩
          ·
            have hx3 : b1 = false := by simp only [SQ, hb1, hb2, Bool.true_beq, Bool.false_beq, Bool.true_bne, Bool.false_bne, Bool.not_true, Bool.not_false, hb3, Bool.true_beq, Bool.false_beq, Bool.true_bne, Bool.false_bne, Bool.not_true, Bool.not_false, hq1, hb4]
            rw [if_neg (by rw [hx3]; decide)] at kb2
            have hq3 := (Option.some.inj kb2).symm
            simp only [SQ, ty63, ty9, s2.b 1 rfl, sBl, s2.b 0 rfl, ty4, bin_bool (P := Try.prog) ty4 rfl, ty23, hb1, hb2, Bool.true_beq, Bool.false_beq, Bool.true_bne, Bool.false_bne, Bool.not_true, Bool.not_false, hb3, hq1, hb4, hq3, n1, n2, n3, n4, n5, n6]
            refine callP (w_slices_Equal_api_Operand_api_Operand kr1) ?_
            simp only [SQ, hb1, hb2, Bool.true_beq, Bool.false_beq, Bool.true_bne, Bool.false_bne, Bool.not_true, Bool.not_false, hb3, hq1, hb4, hq3, n1, n2, n3, n4, n5, n6]
            refine hold_intro ?_
            exact ⟨⟨rfl, rfl, by first | rfl | simp only [SQ, hb1, hb2, Bool.true_beq, Bool.false_beq, Bool.true_bne, Bool.false_bne, Bool.not_true, Bool.not_false, hb3, hq1, hb4, hq3, n1, n2, n3, n4, n5, n6]⟩, rfl⟩
        ·
          have hx4 : ((decide (av_1.label = b_1.label)) && (av_1.edge == b_1.edge)) = false := by simp only [SQ, hb1, hb2, Bool.true_beq, Bool.false_beq, Bool.true_bne, Bool.false_bne, Bool.not_true, Bool.not_false, hb3, Bool.true_beq, Bool.false_beq, Bool.true_bne, Bool.false_bne, Bool.not_true, Bool.not_false]
          rw [if_neg (by rw [hx4]; decide)] at kb1
          have hq4 := (Option.some.inj kb1).symm
          have hx5 : b1 = false := by simp only [SQ, hb1, hb2, Bool.true_beq, Bool.false_beq, Bool.true_bne, Bool.false_bne, Bool.not_true, Bool.not_false, hb3, Bool.true_beq, Bool.false_beq, Bool.true_bne, Bool.false_bne, Bool.not_true, Bool.not_false, hq4]
          rw [if_neg (by rw [hx5]; decide)] at kb2
          have hq5 := (Option.some.inj kb2).symm
          simp only [SQ, ty63, ty9, s2.b 1 rfl, sBl, s2.b 0 rfl, ty4, bin_bool (P := Try.prog) ty4 rfl, hb1, hb2, Bool.true_beq, Bool.false_beq, Bool.true_bne, Bool.false_bne, Bool.not_true, Bool.not_false, hb3, hq4, hq5, n1, n2, n3, n4, n5, n6]
          refine hold_intro ?_
          exact ⟨⟨rfl, rfl, by first | rfl | simp only [SQ, hb1, hb2, Bool.true_beq, Bool.false_beq, Bool.true_bne, Bool.false_bne, Bool.not_true, Bool.not_false, hb3, hq4, hq5, n1, n2, n3, n4, n5, n6]⟩, rfl⟩
      ·
        rcases Bool.eq_false_or_eq_true (b_1.edge) with hb5 | hb5
        ·
          have hx6 : ((decide (av_1.label = b_1.label)) && (av_1.edge == b_1.edge)) = false := by simp only [SQ, hb1, hb2, Bool.true_beq, Bool.false_beq, Bool.true_bne, Bool.false_bne, Bool.not_true, Bool.not_false, hb5, Bool.true_beq, Bool.false_beq, Bool.true_bne, Bool.false_bne, Bool.not_true, Bool.not_false]
          rw [if_neg (by rw [hx6]; decide)] at kb1
          have hq6 := (Option.some.inj kb1).symm
          have hx7 : b1 = false := by simp only [SQ, hb1, hb2, Bool.true_beq, Bool.false_beq, Bool.true_bne, Bool.false_bne, Bool.not_true, Bool.not_false, hb5, Bool.true_beq, Bool.false_beq, Bool.true_bne, Bool.false_bne, Bool.not_true, Bool.not_false, hq6]
          rw [if_neg (by rw [hx7]; decide)] at kb2
          have hq7 := (Option.some.inj kb2).symm
          simp only [SQ, ty63, ty9, s2.b 1 rfl, sBl, s2.b 0 rfl, ty4, bin_bool (P := Try.prog) ty4 rfl, hb1, hb2, Bool.true_beq, Bool.false_beq, Bool.true_bne, Bool.false_bne, Bool.not_true, Bool.not_false, hb5, hq6, hq7, n1, n2, n3, n4, n5, n6]
          refine hold_intro ?_
          exact ⟨⟨rfl, rfl, by first | rfl | simp only [SQ, hb1, hb2, Bool.true_beq, Bool.false_beq, Bool.true_bne, Bool.false_bne, Bool.not_true, Bool.not_false, hb5, hq6, hq7, n1, n2, n3, n4, n5, n6]⟩, rfl⟩
        ·
          have hx8 : ((decide (av_1.label = b_1.label)) && (av_1.edge == b_1.edge)) = true := by simp only [SQ, hb1, hb2, Bool.true_beq, Bool.false_beq, Bool.true_bne, Bool.false_bne, Bool.not_true, Bool.not_false, hb5, Bool.true_beq, Bool.false_beq, Bool.true_bne, Bool.false_bne, Bool.not_true, Bool.not_false]
          rw [if_pos hx8] at kb1
          obtain ⟨r1, kr1, kb1⟩ := bndO kb1
          have hq8 := (Option.some.inj kb1).symm
          rcases Bool.eq_false_or_eq_true (r1) with hb6 | hb6
          ·
            have hx9 : b1 = true := by simp only [SQ, hb1, hb2, Bool.true_beq, Bool.false_beq, Bool.true_bne, Bool.false_bne, Bool.not_true, Bool.not_false, hb5, Bool.true_beq, Bool.false_beq, Bool.true_bne, Bool.false_bne, Bool.not_true, Bool.not_false, hq8, hb6]
            rw [if_pos hx9] at kb2
            obtain ⟨r2, kr2, kb2⟩ := bndO kb2
            have hq9 := (Option.some.inj kb2).symm
            simp only [SQ, ty63, ty9, s2.b 1 rfl, sBl, s2.b 0 rfl, ty4, bin_bool (P := Try.prog) ty4 rfl, ty23, hb1, hb2, Bool.true_beq, Bool.false_beq, Bool.true_bne, Bool.false_bne, Bool.not_true, Bool.not_false, hb5, hq8, hb6, hq9, n1, n2, n3, n4, n5, n6]
            refine callP (w_slices_Equal_api_Operand_api_Operand kr1) ?_
            simp only [SQ, ty63, ty61, s2.b 1 rfl, sBl, s2.b 0 rfl, hb1, hb2, Bool.true_beq, Bool.false_beq, Bool.true_bne, Bool.false_bne, Bool.not_true, Bool.not_false, hb5, hq8, hb6, hq9, n1, n2, n3, n4, n5, n6]
            refine callP (w_slices_EqualFunc_api_Instr_api_Instr_api_Instr_api_Instr_at_ir_SameInstr kr2) ?_
            simp only [SQ, hb1, hb2, Bool.true_beq, Bool.false_beq, Bool.true_bne, Bool.false_bne, Bool.not_true, Bool.not_false, hb5, hq8, hb6, hq9, n1, n2, n3, n4, n5, n6]
            refine hold_intro ?_
            exact ⟨⟨rfl, rfl, by first | rfl | simp only [SQ, hb1, hb2, Bool.true_beq, Bool.false_beq, Bool.true_bne, Bool.false_bne, Bool.not_true, Bool.not_false, hb5, hq8, hb6, hq9, n1, n2, n3, n4, n5, n6]⟩, rfl⟩
          ·
            have hx10 : b1 = false := by simp only [SQ, hb1, hb2, Bool.true_beq, Bool.false_beq, Bool.true_bne, Bool.false_bne, Bool.not_true, Bool.not_false, hb5, Bool.true_beq, Bool.false_beq, Bool.true_bne, Bool.false_bne, Bool.not_true, Bool.not_false, hq8, hb6]
            rw [if_neg (by rw [hx10]; decide)] at kb2
            have hq10 := (Option.some.inj kb2).symm
            simp only [SQ, ty63, ty9, s2.b 1 rfl, sBl, s2.b 0 rfl, ty4, bin_bool (P := Try.prog) ty4 rfl, ty23, hb1, hb2, Bool.true_beq, Bool.false_beq, Bool.true_bne, Bool.false_bne, Bool.not_true, Bool.not_false, hb5, hq8, hb6, hq10, n1, n2, n3, n4, n5, n6]
            refine callP (w_slices_Equal_api_Operand_api_Operand kr1) ?_
            simp only [SQ, hb1, hb2, Bool.true_beq, Bool.false_beq, Bool.true_bne, Bool.false_bne, Bool.not_true, Bool.not_false, hb5, hq8, hb6, hq10, n1, n2, n3, n4, n5, n6]
            refine hold_intro ?_
            exact ⟨⟨rfl, rfl, by first | rfl | simp only [SQ, hb1, hb2, Bool.true_beq, Bool.false_beq, Bool.true_bne, Bool.false_bne, Bool.not_true, Bool.not_false, hb5, hq8, hb6, hq10, n1, n2, n3, n4, n5, n6]⟩, rfl⟩
    ·
      have hx11 : ((decide (av_1.label = b_1.label)) && (av_1.edge == b_1.edge)) = false := by simp only [SQ, hb1]
      rw [if_neg (by rw [hx11]; decide)] at kb1
      have hq11 := (Option.some.inj kb1).symm
      have hx12 : b1 = false := by simp only [SQ, hb1, hq11]
      rw [if_neg (by rw [hx12]; decide)] at kb2
      have hq12 := (Option.some.inj kb2).symm
      simp only [SQ, ty63, ty9, s2.b 1 rfl, sBl, s2.b 0 rfl, hb1, hq11, hq12, n1, n2, n3, n4, n5, n6]
      refine hold_intro ?_
      exact ⟨⟨rfl, rfl, by first | rfl | simp only [SQ, hb1, hq11, hq12, n1, n2, n3, n4, n5, n6]⟩, rfl⟩
  · rintro a1 _ ⟨f1, rfl⟩
    refine U_fi f1 ?_
    refine U_ret ?_
    replace h := Option.some.inj h
    subst h
    refine ⟨.bool b2, by simp only [ires, iress, Try.results113, SQ, List.toList_toArray, n1, n2, n3, n4, n5, n6], ?_⟩
    exact .cl (closed_bool _)

theorem w_slices_EqualFunc_api_Block_api_Block_api_Block_api_Block_at_ir_sameBlock {fuel : Nat} {s1_1 : List Bl} {s2_1 : List Bl} {r0_ : Bool} (h : p_slices_EqualFunc_api_Block_api_Block_api_Block_api_Block_at_ir_sameBlock fuel s1_1 s2_1 = some r0_) : Pure1 Try.prog 112 [.sim (s1_1.map eBl) false, .sim (s2_1.map eBl) false, .fn (.func 113) [] []] (.bool r0_) := by
  refine Pure1_S (all_cl (cl_map cl_eBl s1_1) (all_cl (cl_map cl_eBl s2_1) (all_cl (closed_fn _) all_cl0))) fun F H s0 => ?_
  refine U_call 0 Try.func112 rfl (by kernel_rfl) (by simp [Try.ntmps112]) ?_
  rw [Try.ntmps112]
  refine U_fr 32 [(0, .sim (s1_1.map eBl) false), (1, .sim (s2_1.map eBl) false), (2, .fn (.func 113) [] [])] rfl rfl rfl ?_
  unfold p_slices_EqualFunc_api_Block_api_Block_api_Block_api_Block_at_ir_sameBlock at h
  refine U_seq ?_
  refine U_reg ?_
  simp only [SQ, n1, n2, n3, n4, n5, n6]
  refine hold_intro ?_
  refine U_seq ?_
  refine U_seq ?_
  refine U_reg ?_
  simp only [SQ, len_sim ty24 rfl, n1, n2, n3, n4, n5, n6]
  refine hold_intro ?_
  rcases Bool.eq_false_or_eq_true (decide ((s1_1.length : Int) ≠ (s2_1.length : Int))) with hb1 | hb1
  ·
    rw [if_pos hb1] at h
    refine U_condT (by simp only [SQ, hb1, n1, n2, n3, n4, n5, n6]) ?_
    refine U_seq ?_
    refine U_reg ?_
    simp only [SQ, hb1, n1, n2, n3, n4, n5, n6]
    refine hold_intro ?_
    refine U_ret ?_
    replace h := Option.some.inj h
    subst h
    refine ⟨.bool false, by simp only [ires, iress, Try.results112, SQ, List.toList_toArray, hb1, n1, n2, n3, n4, n5, n6], ?_⟩
    exact .cl (closed_bool _)
  ·
    rw [if_neg (by rw [hb1]; decide)] at h
    refine U_condF (by simp only [SQ, hb1, n1, n2, n3, n4, n5, n6]) ?_
    refine U_skip ?_
    refine U_seq ?_
    refine U_seq ?_
    refine U_reg ?_
    simp only [SQ, len_sim ty24 rfl, hb1, n1, n2, n3, n4, n5, n6]
    refine hold_intro ?_
    refine U_fr 32 [(1, .sim (s2_1.map eBl) false), (2, .fn (.func 113) [] []), (15, .sim (s1_1.map eBl) false), (16, .int .i64 (s1_1.length : Int)), (17, .int .i64 0)] rfl rfl rfl ?_
    obtain ⟨u1, he1, h⟩ := bndE h
    refine U_cut (fun a' H' => ∃ x_1 : Int, u1 = .n x_1 ∧ Fi a' 32 [(2, .fn (.func 113) [] [])] ∧ HS F [] H') (U_block (U_loop (fun z_ a' H' => match z_ with | (m1, x_1) => loopE m1 (fun s => p_slices_EqualFunc_api_Block_api_Block_api_Block_api_Block_at_ir_sameBlock_b1 fuel s1_1 s2_1 s) x_1 = some u1 ∧ Fi a' 32 [(1, .sim (s2_1.map eBl) false), (2, .fn (.func 113) [] []), (15, .sim (s1_1.map eBl) false), (16, .int .i64 (s1_1.length : Int)), (17, .int .i64 x_1)] ∧ HS F [] H' : (Nat × Int) → Fr → Heap → Prop) (fun z_ : Nat × Int => z_.1) (fuel, 0) ?_ ?_)) ?_
    · exact ⟨he1, ⟨rfl, rfl, by first | rfl | simp only [SQ, hb1, n1, n2, n3, n4, n5, n6]⟩, s0⟩
    ·
      rintro ⟨m1, x_1⟩ a1 H1 ⟨hf1, f1, s1⟩
      refine U_fi f1 ?_
      obtain ⟨m1', m1_lt, u2, hr1, hl2⟩ := loopE_step hf1
      replace hr1 : p_slices_EqualFunc_api_Block_api_Block_api_Block_api_Block_at_ir_sameBlock_b1 fuel s1_1 s2_1 x_1 = some u2 := hr1
      unfold p_slices_EqualFunc_api_Block_api_Block_api_Block_api_Block_at_ir_sameBlock_b1 at hr1
      refine U_seq ?_
      refine U_reg ?_
      simp only [SQ, hb1, n1, n2, n3, n4, n5, n6]
      refine hold_intro ?_
      refine U_seq ?_
      rcases Bool.eq_false_or_eq_true (decide (x_1 < (s1_1.length : Int))) with hb2 | hb2
      ·
        rw [if_pos hb2] at hr1
        refine U_condT (by simp only [SQ, hb1, hb2, n1, n2, n3, n4, n5, n6]) ?_
        refine U_skip ?_
        refine U_seq ?_
        refine U_block ?_
        refine U_seq ?_
        obtain ⟨x1, kx1, hr1⟩ := bndO hr1
        refine U_reg ?_
        simp only [SQ, ty24, ty63, iia_sim (f := eBl) ty24 rfl ty63 kx1 rfl, row_sim (f := eBl) kx1, sBl, hb1, hb2, n1, n2, n3, n4, n5, n6]
        refine N_box s1 rfl fun d1 H2 s2 => ?_
        simp only [SQ, ty63, sBl, splice_all', s2.b 0 rfl, hb1, hb2, n1, n2, n3, n4, n5, n6]
        refine N_put 0 s2 rfl fun H3 s3 => ?_
        simp only [SQ, hb1, hb2, n1, n2, n3, n4, n5, n6]
        refine hold_intro ?_
        refine U_seq ?_
        refine U_fr 32 [(1, .sim (s2_1.map eBl) false), (2, .fn (.func 113) [] []), (7, .int .i64 x_1), (8, .pb d1 0 0), (15, .sim (s1_1.map eBl) false), (16, .int .i64 (s1_1.length : Int)), (17, .int .i64 x_1)] rfl rfl rfl ?_
        obtain ⟨x2, kx2, hr1⟩ := bndO hr1
        refine U_reg ?_
        simp only [SQ, ty24, ty63, iia_sim (f := eBl) ty24 rfl ty63 kx2 rfl, row_sim (f := eBl) kx2, sBl, hb1, hb2, n1, n2, n3, n4, n5, n6]
        refine N_box s3 rfl fun d2 H4 s4 => ?_
        simp only [SQ, ty63, sBl, splice_all', s4.b 0 rfl, hb1, hb2, n1, n2, n3, n4, n5, n6]
        refine N_put 0 s4 rfl fun H5 s5 => ?_
        simp only [SQ, hb1, hb2, n1, n2, n3, n4, n5, n6]
        refine hold_intro ?_
        refine U_seq ?_
        obtain ⟨r1, kr1, hr1⟩ := bndO hr1
        refine U_reg ?_
        simp only [SQ, ty63, s5.b 1 rfl, sBl, s5.b 0 rfl, hb1, hb2, n1, n2, n3, n4, n5, n6]
        refine callP (w_ir_sameBlock kr1) ?_
        simp only [SQ, hb1, hb2, n1, n2, n3, n4, n5, n6]
        refine hold_intro ?_
        rcases Bool.eq_false_or_eq_true ((!r1)) with hb3 | hb3
        ·
          rw [if_pos hb3] at hr1
          refine U_condT (by simp only [SQ, hb1, hb2, hb3, n1, n2, n3, n4, n5, n6]) ?_
          refine U_seq ?_
          refine U_reg ?_
          simp only [SQ, hb1, hb2, hb3, n1, n2, n3, n4, n5, n6]
          refine hold_intro ?_
          refine U_ret ?_
          replace hr1 := Option.some.inj hr1
          subst hr1
          replace hl2 : u1 = .r _ := hl2
          subst hl2
          replace h := outE_r h
          replace h := Option.some.inj h
          subst h
          refine ⟨.bool false, by simp only [ires, iress, Try.results112, SQ, List.toList_toArray, hb1, hb2, hb3, n1, n2, n3, n4, n5, n6], ?_⟩
          exact .cl (closed_bool _)
        ·
          rw [if_neg (by rw [hb3]; decide)] at hr1
          refine U_condF (by simp only [SQ, hb1, hb2, hb3, n1, n2, n3, n4, n5, n6]) ?_
          refine U_skip ?_
          refine U_reg ?_
          simp only [SQ, hb1, hb2, hb3, n1, n2, n3, n4, n5, n6]
          refine hold_intro ?_
          replace hr1 := Option.some.inj hr1
          subst hr1
          exact ⟨(m1', IntKind.wrap .i64 (x_1 + 1)), m1_lt, hl2, ⟨rfl, rfl, by first | rfl | simp only [SQ, hb1, hb2, hb3, n1, n2, n3, n4, n5, n6]⟩, s5.sel [] (by decide)⟩
      ·
        rw [if_neg (by rw [hb2]; decide)] at hr1
        refine U_condF (by simp only [SQ, hb1, hb2, n1, n2, n3, n4, n5, n6]) ?_
        refine U_exit rfl ?_
        replace hr1 := Option.some.inj hr1
        subst hr1
        exact ⟨_, hl2, ⟨rfl, rfl, by first | rfl | simp only [SQ, hb1, hb2, n1, n2, n3, n4, n5, n6]⟩, s1⟩
    ·
      rintro a2 H6 ⟨x_2, rfl, f2, s6⟩
      replace h := outE_n h
      refine U_fi f2 ?_
      refine U_seq ?_
      refine U_reg ?_
      simp only [SQ, hb1, n1, n2, n3, n4, n5, n6]
      refine hold_intro ?_
      refine U_ret ?_
      replace h := Option.some.inj h
      subst h
      refine ⟨.bool true, by simp only [ires, iress, Try.results112, SQ, List.toList_toArray, hb1, n1, n2, n3, n4, n5, n6], ?_⟩
      exact .cl (closed_bool _)

theorem w_ir_Same {fuel : Nat} {av_1 : Fnc} {b_1 : Fnc} {r0_ : Bool} (h : p_ir_Same fuel av_1 b_1 = some r0_) : Pure1 Try.prog 57 [.agg (eFnc av_1), .agg (eFnc b_1)] (.bool r0_) := by
  refine Pure1_S (all_cl (cl_agg (cl_eFnc _)) (all_cl (cl_agg (cl_eFnc _)) all_cl0)) fun F H s0 => ?_
  refine U_call 0 Try.func57 rfl (by kernel_rfl) (by simp [Try.ntmps57]) ?_
  rw [Try.ntmps57]
  refine U_fr 38 [(0, .agg (eFnc av_1)), (1, .agg (eFnc b_1))] rfl rfl rfl ?_
  unfold p_ir_Same at h
  refine U_seq ?_
  refine U_reg ?_
  simp only [SQ, ty26, sFnc, n1, n2, n3, n4, n5, n6]
  refine N_box s0 rfl fun d1 H1 s1 => ?_
  simp only [SQ, ty26, sFnc, n1, n2, n3, n4, n5, n6]
  refine N_box s1 rfl fun d2 H2 s2 => ?_
  simp only [SQ, n1, n2, n3, n4, n5, n6]
  refine hold_intro ?_
  refine U_seq ?_
  refine U_fr 38 [(2, .pb d1 0 0), (3, .pb d2 0 0), (4, .bool false)] rfl rfl rfl ?_
  obtain ⟨b1, kb1, h⟩ := bndO h
  obtain ⟨b2, kb2, h⟩ := bndO h
  obtain ⟨b3, kb3, h⟩ := bndO h
  refine U_cut (fun a' H' => Fi a' 38 [(4, .bool b3)] ∧ H2 = H') ?_ ?_
  · refine U_reg ?_
    rcases Bool.eq_false_or_eq_true (av_1.machine) with hb1 | hb1
    ·
      rcases Bool.eq_false_or_eq_true (b_1.machine) with hb2 | hb2
      ·
        rcases Bool.eq_false_or_eq_true (decide (av_1.name = b_1.name)) with hb3 | hb3
        ·
          have hx1 : ((av_1.machine == b_1.machine) && (decide (av_1.name = b_1.name))) = true := by simp only [SQ, hb1, Bool.true_beq, Bool.false_beq, Bool.true_bne, Bool.false_bne, Bool.not_true, Bool.not_false, hb2, Bool.true_beq, Bool.false_beq, Bool.true_bne, Bool.false_bne, Bool.not_true, Bool.not_false, hb3]
          rw [if_pos hx1] at kb1
          obtain ⟨r1, kr1, kb1⟩ := bndO kb1
          have hq1 := (Option.some.inj kb1).symm
          rcases Bool.eq_false_or_eq_true (r1) with hb4 | hb4
          ·
            have hx2 : b1 = true := by simp only [SQ, hb1, Bool.true_beq, Bool.false_beq, Bool.true_bne, Bool.false_bne, Bool.not_true, Bool.not_false, hb2, Bool.true_beq, Bool.false_beq, Bool.true_bne, Bool.false_bne, Bool.not_true, Bool.not_false, hb3, hq1, hb4]
            rw [if_pos hx2] at kb2
            obtain ⟨r2, kr2, kb2⟩ := bndO kb2
            have hq2 := (Option.some.inj kb2).symm
            rcases Bool.eq_false_or_eq_true (r2) with hb5 | hb5
            ·
              have hx3 : b2 = true := by simp only [SQ, hb1, Bool.true_beq, Bool.false_beq, Bool.true_bne, Bool.false_bne, Bool.not_true, Bool.not_false, hb2, Bool.true_beq, Bool.false_beq, Bool.true_bne, Bool.false_bne, Bool.not_true, Bool.not_false, hb3, hq1, hb4, hq2, hb5]
              rw [if_pos hx3] at kb3
              obtain ⟨r3, kr3, kb3⟩ := bndO kb3
              have hq3 := (Option.some.inj kb3).symm
              simp only [SQ, ty26, ty4, s2.b 1 rfl, sFnc, s2.b 0 rfl, bin_bool (P := Try.prog) ty4 rfl, ty9, ty22, hb1, Bool.true_beq, Bool.false_beq, Bool.true_bne, Bool.false_bne, Bool.not_true, Bool.not_false, hb2, hb3, hq1, hb4, hq2, hb5, hq3, n1, n2, n3, n4, n5, n6]
              refine callP (w_slices_Equal_api_Reg_api_Reg kr1) ?_
              simp only [SQ, ty26, ty23, s2.b 1 rfl, sFnc, s2.b 0 rfl, hb1, Bool.true_beq, Bool.false_beq, Bool.true_bne, Bool.false_bne, Bool.not_true, Bool.not_false, hb2, hb3, hq1, hb4, hq2, hb5, hq3, n1, n2, n3, n4, n5, n6]
              refine callP (w_slices_Equal_api_Operand_api_Operand kr2) ?_
              simp only [SQ, ty26, ty24, s2.b 1 rfl, sFnc, s2.b 0 rfl, hb1, Bool.true_beq, Bool.false_beq, Bool.true_bne, Bool.false_bne, Bool.not_true, Bool.not_false, hb2, hb3, hq1, hb4, hq2, hb5, hq3, n1, n2, n3, n4, n5, n6]
              refine callP (w_slices_EqualFunc_api_Block_api_Block_api_Block_api_Block_at_ir_sameBlock kr3) ?_
              simp only [SQ, hb1, Bool.true_beq, Bool.false_beq, Bool.true_bne, Bool.false_bne, Bool.not_true, Bool.not_false, hb2, hb3, hq1, hb4, hq2, hb5, hq3, n1, n2, n3, n4, n5, n6]
              refine hold_intro ?_
              exact ⟨⟨rfl, rfl, by first | rfl | simp only [SQ, hb1, Bool.true_beq, Bool.false_beq, Bool.true_bne, Bool.false_bne, Bool.not_true, Bool.not_false, hb2, hb3, hq1, hb4, hq2, hb5, hq3, n1, n2, n3, n4, n5, n6]⟩, rfl⟩
            ·
              have hx4 : b2 = false := by simp only [SQ, hb1, Bool.true_beq, Bool.false_beq, Bool.true_bne, Bool.false_bne, Bool.not_true, Bool.not_false, hb2, Bool.true_beq, Bool.false_beq, Bool.true_bne, Bool.false_bne, Bool.not_true, Bool.not_false, hb3, hq1, hb4, hq2, hb5]
              rw [if_neg (by rw [hx4]; decide)] at kb3
              have hq4 := (Option.some.inj kb3).symm
              simp only [SQ, ty26, ty4, s2.b 1 rfl, sFnc, s2.b 0 rfl, bin_bool (P := Try.prog) ty4 rfl, ty9, ty22, hb1, Bool.true_beq, Bool.false_beq, Bool.true_bne, Bool.false_bne, Bool.not_true, Bool.not_false, hb2, hb3, hq1, hb4, hq2, hb5, hq4, n1, n2, n3, n4, n5, n6]
              refine callP (w_slices_Equal_api_Reg_api_Reg kr1) ?_
              simp only [SQ, ty26, ty23, s2.b 1 rfl, sFnc, s2.b 0 rfl, hb1, Bool.true_beq, Bool.false_beq, Bool.true_bne, Bool.false_bne, Bool.not_true, Bool.not_false, hb2, hb3, hq1, hb4, hq2, hb5, hq4, n1, n2, n3, n4, n5, n6]
              refine callP (w_slices_Equal_api_Operand_api_Operand kr2) ?_
              simp only [SQ, hb1, Bool.true_beq, Bool.false_beq, Bool.true_bne, Bool.false_bne, Bool.not_true, Bool.not_false, hb2, hb3, hq1, hb4, hq2, hb5, hq4, n1, n2, n3, n4, n5, n6]
              refine hold_intro ?_
              exact ⟨⟨rfl, rfl, by first | rfl | simp only [SQ, hb1, Bool.true_beq, Bool.false_beq, Bool.true_bne, Bool.false_bne, Bool.not_true, Bool.not_false, hb2, hb3, hq1, hb4, hq2, hb5, hq4, n1, n2, n3, n4, n5, n6]⟩, rfl⟩
          ·
            have hx5 : b1 = false := by simp only [SQ, hb1, Bool.true_beq, Bool.false_beq, Bool.true_bne, Bool.false_bne, Bool.not_true, Bool.not_false, hb2, Bool.true_beq, Bool.false_beq, Bool.true_bne, Bool.false_bne, Bool.not_true, Bool.not_false, hb3, hq1, hb4]
            rw [if_neg (by rw [hx5]; decide)] at kb2
            have hq5 := (Option.some.inj kb2).symm
            have hx6 : b2 = false := by simp only [SQ, hb1, Bool.true_beq, Bool.false_beq, Bool.true_bne, Bool.false_bne, Bool.not_true, Bool.not_false, hb2, Bool.true_beq, Bool.false_beq, Bool.true_bne, Bool.false_bne, Bool.not_true, Bool.not_false, hb3, hq1, hb4, hq5]
            rw [if_neg (by rw [hx6]; decide)] at kb3
            have hq6 := (Option.some.inj kb3).symm
            simp only [SQ, ty26, ty4, s2.b 1 rfl, sFnc, s2.b 0 rfl, bin_bool (P := Try.prog) ty4 rfl, ty9, ty22, hb1, Bool.true_beq, Bool.false_beq, Bool.true_bne, Bool.false_bne, Bool.not_true, Bool.not_false, hb2, hb3, hq1, hb4, hq5, hq6, n1, n2, n3, n4, n5, n6]
            refine callP (w_slices_Equal_api_Reg_api_Reg kr1) ?_
            simp only [SQ, hb1, Bool.true_beq, Bool.false_beq, Bool.true_bne, Bool.false_bne, Bool.not_true, Bool.not_false, hb2, hb3, hq1, hb4, hq5, hq6, n1, n2, n3, n4, n5, n6]
            refine hold_intro ?_
            exact ⟨⟨rfl, rfl, by first | rfl | simp only [SQ, hb1, Bool.true_beq, Bool.false_beq, Bool.true_bne, Bool.false_bne, Bool.not_true, Bool.not_false, hb2, hb3, hq1, hb4, hq5, hq6, n1, n2, n3, n4, n5, n6]⟩, rfl⟩
        ·
          have hx7 : ((av_1.machine == b_1.machine) && (decide (av_1.name = b_1.name))) = false := by simp only [SQ, hb1, Bool.true_beq, Bool.false_beq, Bool.true_bne, Bool.false_bne, Bool.not_true, Bool.not_false, hb2, Bool.true_beq, Bool.false_beq, Bool.true_bne, Bool.false_bne, Bool.not_true, Bool.not_false, hb3]
          rw [if_neg (by rw [hx7]; decide)] at kb1
          have hq7 := (Option.some.inj kb1).symm
          have hx8 : b1 = false := by simp only [SQ, hb1, Bool.true_beq, Bool.false_beq, Bool.true_bne, Bool.false_bne, Bool.not_true, Bool.not_false, hb2, Bool.true_beq, Bool.false_beq, Bool.true_bne, Bool.false_bne, Bool.not_true, Bool.not_false, hb3, hq7]
          rw [if_neg (by rw [hx8]; decide)] at kb2
          have hq8 := (Option.some.inj kb2).symm
          have hx9 : b2 = false := by simp only [SQ, hb1, Bool.true_beq, Bool.false_beq, Bool.true_bne, Bool.false_bne, Bool.not_true, Bool.not_false, hb2, Bool.true_beq, Bool.false_beq, Bool.true_bne, Bool.false_bne, Bool.not_true, Bool.not_false, hb3, hq7, hq8]
          rw [if_neg (by rw [hx9]; decide)] at kb3
          have hq9 := (Option.some.inj kb3).symm
          simp only [SQ, ty26, ty4, s2.b 1 rfl, sFnc, s2.b 0 rfl, bin_bool (P := Try.prog) ty4 rfl, ty9, hb1, Bool.true_beq, Bool.false_beq, Bool.true_bne, Bool.false_bne, Bool.not_true, Bool.not_false, hb2, hb3, hq7, hq8, hq9, n1, n2, n3, n4, n5, n6]
          refine hold_intro ?_
          exact ⟨⟨rfl, rfl, by first | rfl | simp only [SQ, hb1, Bool.true_beq, Bool.false_beq, Bool.true_bne, Bool.false_bne, Bool.not_true, Bool.not_false, hb2, hb3, hq7, hq8, hq9, n1, n2, n3, n4, n5, n6]⟩, rfl⟩
      ·
        have hx10 : ((av_1.machine == b_1.machine) && (decide (av_1.name = b_1.name))) = false := by simp only [SQ, hb1, Bool.true_beq, Bool.false_beq, Bool.true_bne, Bool.false_bne, Bool.not_true, Bool.not_false, hb2, Bool.true_beq, Bool.false_beq, Bool.true_bne, Bool.false_bne, Bool.not_true, Bool.not_false]
        rw [if_neg (by rw [hx10]; decide)] at kb1
        have hq10 := (Option.some.inj kb1).symm
        have hx11 : b1 = false := by simp only [SQ, hb1, Bool.true_beq, Bool.false_beq, Bool.true_bne, Bool.false_bne, Bool.not_true, Bool.not_false, hb2, Bool.true_beq, Bool.false_beq, Bool.true_bne, Bool.false_bne, Bool.not_true, Bool.not_false, hq10]
        rw [if_neg (by rw [hx11]; decide)] at kb2
        have hq11 := (Option.some.inj kb2).symm
        have hx12 : b2 = false := by simp only [SQ, hb1, Bool.true_beq, Bool.false_beq, Bool.true_bne, Bool.false_bne, Bool.not_true, Bool.not_false, hb2, Bool.true_beq, Bool.false_beq, Bool.true_bne, Bool.false_bne, Bool.not_true, Bool.not_false, hq10, hq11]
        rw [if_neg (by rw [hx12]; decide)] at kb3
        have hq12 := (Option.some.inj kb3).symm
        simp only [SQ, ty26, ty4, s2.b 1 rfl, sFnc, s2.b 0 rfl, bin_bool (P := Try.prog) ty4 rfl, hb1, Bool.true_beq, Bool.false_beq, Bool.true_bne, Bool.false_bne, Bool.not_true, Bool.not_false, hb2, hq10, hq11, hq12, n1, n2, n3, n4, n5, n6]
        refine hold_intro ?_
        exact ⟨⟨rfl, rfl, by first | rfl | simp only [SQ, hb1, Bool.true_beq, Bool.false_beq, Bool.true_bne, Bool.false_bne, Bool.not_true, Bool.not_false, hb2, hq10, hq11, hq12, n1, n2, n3, n4, n5, n6]⟩, rfl⟩
    ·
      rcases Bool.eq_false_or_eq_true (b_1.machine) with hb6 | hb6
      ·
        have hx13 : ((av_1.machine == b_1.machine) && (decide (av_1.name = b_1.name))) = false := by simp only [SQ, hb1, Bool.true_beq, Bool.false_beq, Bool.true_bne, Bool.false_bne, Bool.not_true, Bool.not_false, hb6, Bool.true_beq, Bool.false_beq, Bool.true_bne, Bool.false_bne, Bool.not_true, Bool.not_false]
        rw [if_neg (by rw [hx13]; decide)] at kb1
        have hq13 := (Option.some.inj kb1).symm
        have hx14 : b1 = false := by simp only [SQ, hb1, Bool.true_beq, Bool.false_beq, Bool.true_bne, Bool.false_bne, Bool.not_true, Bool.not_false, hb6, Bool.true_beq, Bool.false_beq, Bool.true_bne, Bool.false_bne, Bool.not_true, Bool.not_false, hq13]
        rw [if_neg (by rw [hx14]; decide)] at kb2
        have hq14 := (Option.some.inj kb2).symm
        have hx15 : b2 = false := by simp only [SQ, hb1, Bool.true_beq, Bool.false_beq, Bool.true_bne, Bool.false_bne, Bool.not_true, Bool.not_false, hb6, Bool.true_beq, Bool.false_beq, Bool.true_bne, Bool.false_bne, Bool.not_true, Bool.not_false, hq13, hq14]
        rw [if_neg (by rw [hx15]; decide)] at kb3
        have hq15 := (Option.some.inj kb3).symm
        simp only [SQ, ty26, ty4, s2.b 1 rfl, sFnc, s2.b 0 rfl, bin_bool (P := Try.prog) ty4 rfl, hb1, Bool.true_beq, Bool.false_beq, Bool.true_bne, Bool.false_bne, Bool.not_true, Bool.not_false, hb6, hq13, hq14, hq15, n1, n2, n3, n4, n5, n6]
        refine hold_intro ?_
        exact ⟨⟨rfl, rfl, by first | rfl | simp only [SQ, hb1, Bool.true_beq, Bool.false_beq, Bool.true_bne, Bool.false_bne, Bool.not_true, Bool.not_false, hb6, hq13, hq14, hq15, n1, n2, n3, n4, n5, n6]⟩, rfl⟩
      ·
        rcases Bool.eq_false_or_eq_true (decide (av_1.name = b_1.name)) with hb7 | hb7
        ·
          have hx16 : ((av_1.machine == b_1.machine) && (decide (av_1.name = b_1.name))) = true := by simp only [SQ, hb1, Bool.true_beq, Bool.false_beq, Bool.true_bne, Bool.false_bne, Bool.not_true, Bool.not_false, hb6, Bool.true_beq, Bool.false_beq, Bool.true_bne, Bool.false_bne, Bool.not_true, Bool.not_false, hb7]
          rw [if_pos hx16] at kb1
          obtain ⟨r1, kr1, kb1⟩ := bndO kb1
          have hq16 := (Option.some.inj kb1).symm
          rcases Bool.eq_false_or_eq_true (r1) with hb8 | hb8
          ·
            have hx17 : b1 = true := by simp only [SQ, hb1, Bool.true_beq, Bool.false_beq, Bool.true_bne, Bool.false_bne, Bool.not_true, Bool.not_false, hb6, Bool.true_beq, Bool.false_beq, Bool.true_bne, Bool.false_bne, Bool.not_true, Bool.not_false, hb7, hq16, hb8]
            rw [if_pos hx17] at kb2
            obtain ⟨r2, kr2, kb2⟩ := bndO kb2
            have hq17 := (Option.some.inj kb2).symm
            rcases Bool.eq_false_or_eq_true (r2) with hb9 | hb9
            ·
              have hx18 : b2 = true := by simp only [SQ, hb1, Bool.true_beq, Bool.false_beq, Bool.true_bne, Bool.false_bne, Bool.not_true, Bool.not_false, hb6, Bool.true_beq, Bool.false_beq, Bool.true_bne, Bool.false_bne, Bool.not_true, Bool.not_false, hb7, hq16, hb8, hq17, hb9]
              rw [if_pos hx18] at kb3
              obtain ⟨r3, kr3, kb3⟩ := bndO kb3
              have hq18 := (Option.some.inj kb3).symm
              simp only [SQ, ty26, ty4, s2.b 1 rfl, sFnc, s2.b 0 rfl, bin_bool (P := Try.prog) ty4 rfl, ty9, ty22, hb1, Bool.true_beq, Bool.false_beq, Bool.true_bne, Bool.false_bne, Bool.not_true, Bool.not_false, hb6, hb7, hq16, hb8, hq17, hb9, hq18, n1, n2, n3, n4, n5, n6]
              refine callP (w_slices_Equal_api_Reg_api_Reg kr1) ?_
              simp only [SQ, ty26, ty23, s2.b 1 rfl, sFnc, s2.b 0 rfl, hb1, Bool.true_beq, Bool.false_beq, Bool.true_bne, Bool.false_bne, Bool.not_true, Bool.not_false, hb6, hb7, hq16, hb8, hq17, hb9, hq18, n1, n2, n3, n4, n5, n6]
              refine callP (w_slices_Equal_api_Operand_api_Operand kr2) ?_
              simp only [SQ, ty26, ty24, s2.b 1 rfl, sFnc, s2.b 0 rfl, hb1, Bool.true_beq, Bool.false_beq, Bool.true_bne, Bool.false_bne, Bool.not_true, Bool.not_false, hb6, hb7, hq16, hb8, hq17, hb9, hq18, n1, n2, n3, n4, n5, n6]
              refine callP (w_slices_EqualFunc_api_Block_api_Block_api_Block_api_Block_at_ir_sameBlock kr3) ?_
              simp only [SQ, hb1, Bool.true_beq, Bool.false_beq, Bool.true_bne, Bool.false_bne, Bool.not_true, Bool.not_false, hb6, hb7, hq16, hb8, hq17, hb9, hq18, n1, n2, n3, n4, n5, n6]
              refine hold_intro ?_
              exact ⟨⟨rfl, rfl, by first | rfl | simp only [SQ, hb1, Bool.true_beq, Bool.false_beq, Bool.true_bne, Bool.false_bne, Bool.not_true, Bool.not_false, hb6, hb7, hq16, hb8, hq17, hb9, hq18, n1, n2, n3, n4, n5, n6]⟩, rfl⟩
            ·
              have hx19 : b2 = false := by simp only [SQ, hb1, Bool.true_beq, Bool.false_beq, Bool.true_bne, Bool.false_bne, Bool.not_true, Bool.not_false, hb6, Bool.true_beq, Bool.false_beq, Bool.true_bne, Bool.false_bne, Bool.not_true, Bool.not_false, hb7, hq16, hb8, hq17, hb9]
              rw [if_neg (by rw [hx19]; decide)] at kb3
              have hq19 := (Option.some.inj kb3).symm
              simp only [SQ, ty26, ty4, s2.b 1 rfl, sFnc, s2.b 0 rfl, bin_bool (P := Try.prog) ty4 rfl, ty9, ty22, hb1, Bool.true_beq, Bool.false_beq, Bool.true_bne, Bool.false_bne, Bool.not_true, Bool.not_false, hb6, hb7, hq16, hb8, hq17, hb9, hq19, n1, n2, n3, n4, n5, n6]
              refine callP (w_slices_Equal_api_Reg_api_Reg kr1) ?_
              simp only [SQ, ty26, ty23, s2.b 1 rfl, sFnc, s2.b 0 rfl, hb1, Bool.true_beq, Bool.false_beq, Bool.true_bne, Bool.false_bne, Bool.not_true, Bool.not_false, hb6, hb7, hq16, hb8, hq17, hb9, hq19, n1, n2, n3, n4, n5, n6]
              refine callP (w_slices_Equal_api_Operand_api_Operand kr2) ?_
              simp only [SQ, hb1, Bool.true_beq, Bool.false_beq, Bool.true_bne, Bool.false_bne, Bool.not_true, Bool.not_false, hb6, hb7, hq16, hb8, hq17, hb9, hq19, n1, n2, n3, n4, n5, n6]
              refine hold_intro ?_
              exact ⟨⟨rfl, rfl, by first | rfl | simp only [SQ, hb1, Bool.true_beq, Bool.false_beq, Bool.true_bne, Bool.false_bne, Bool.not_true, Bool.not_false, hb6, hb7, hq16, hb8, hq17, hb9, hq19, n1, n2, n3, n4, n5, n6]⟩, rfl⟩
          ·
            have hx20 : b1 = false := by simp only [SQ, hb1, Bool.true_beq, Bool.false_beq, Bool.true_bne, Bool.false_bne, Bool.not_true, Bool.not_false, hb6, Bool.true_beq, Bool.false_beq, Bool.true_bne, Bool.false_bne, Bool.not_true, Bool.not_false, hb7, hq16, hb8]
            rw [if_neg (by rw [hx20]; decide)] at kb2
            have hq20 := (Option.some.inj kb2).symm
            have hx21 : b2 = false := by simp only [SQ, hb1, Bool.true_beq, Bool.false_beq, Bool.true_bne, Bool.false_bne, Bool.not_true, Bool.not_false, hb6, Bool.true_beq, Bool.false_beq, Bool.true_bne, Bool.false_bne, Bool.not_true, Bool.not_false, hb7, hq16, hb8, hq20]
            rw [if_neg (by rw [hx21]; decide)] at kb3
            have hq21 := (Option.some.inj kb3).symm
            simp only [SQ, ty26, ty4, s2.b 1 rfl, sFnc, s2.b 0 rfl, bin_bool (P := Try.prog) ty4 rfl, ty9, ty22, hb1, Bool.true_beq, Bool.false_beq, Bool.true_bne, Bool.false_bne, Bool.not_true, Bool.not_false, hb6, hb7, hq16, hb8, hq20, hq21, n1, n2, n3, n4, n5, n6]
            refine callP (w_slices_Equal_api_Reg_api_Reg kr1) ?_
            simp only [SQ, hb1, Bool.true_beq, Bool.false_beq, Bool.true_bne, Bool.false_bne, Bool.not_true, Bool.not_false, hb6, hb7, hq16, hb8, hq20, hq21, n1, n2, n3, n4, n5, n6]
            refine hold_intro ?_
            exact ⟨⟨rfl, rfl, by first | rfl | simp only [SQ, hb1, Bool.true_beq, Bool.false_beq, Bool.true_bne, Bool.false_bne, Bool.not_true, Bool.not_false, hb6, hb7, hq16, hb8, hq20, hq21, n1, n2, n3, n4, n5, n6]⟩, rfl⟩
        ·
          have hx22 : ((av_1.machine == b_1.machine) && (decide (av_1.name = b_1.name))) = false := by simp only [SQ, hb1, Bool.true_beq, Bool.false_beq, Bool.true_bne, Bool.false_bne, Bool.not_true, Bool.not_false, hb6, Bool.true_beq, Bool.false_beq, Bool.true_bne, Bool.false_bne, Bool.not_true, Bool.not_false, hb7]
          rw [if_neg (by rw [hx22]; decide)] at kb1
          have hq22 := (Option.some.inj kb1).symm
          have hx23 : b1 = false := by simp only [SQ, hb1, Bool.true_beq, Bool.false_beq, Bool.true_bne, Bool.false_bne, Bool.not_true, Bool.not_false, hb6, Bool.true_beq, Bool.false_beq, Bool.true_bne, Bool.false_bne, Bool.not_true, Bool.not_false, hb7, hq22]
          rw [if_neg (by rw [hx23]; decide)] at kb2
          have hq23 := (Option.some.inj kb2).symm
          have hx24 : b2 = false := by simp only [SQ, hb1, Bool.true_beq, Bool.false_beq, Bool.true_bne, Bool.false_bne, Bool.not_true, Bool.not_false, hb6, Bool.true_beq, Bool.false_beq, Bool.true_bne, Bool.false_bne, Bool.not_true, Bool.not_false, hb7, hq22, hq23]
          rw [if_neg (by rw [hx24]; decide)] at kb3
          have hq24 := (Option.some.inj kb3).symm
          simp only [SQ, ty26, ty4, s2.b 1 rfl, sFnc, s2.b 0 rfl, bin_bool (P := Try.prog) ty4 rfl, ty9, hb1, Bool.true_beq, Bool.false_beq, Bool.true_bne, Bool.false_bne, Bool.not_true, Bool.not_false, hb6, hb7, hq22, hq23, hq24, n1, n2, n3, n4, n5, n6]
          refine hold_intro ?_
          exact ⟨⟨rfl, rfl, by first | rfl | simp only [SQ, hb1, Bool.true_beq, Bool.false_beq, Bool.true_bne, Bool.false_bne, Bool.not_true, Bool.not_false, hb6, hb7, hq22, hq23, hq24, n1, n2, n3, n4, n5, n6]⟩, rfl⟩
  · rintro a1 _ ⟨f1, rfl⟩
    refine U_fi f1 ?_
    refine U_ret ?_
    replace h := Option.some.inj h
    subst h
    refine ⟨.bool b3, by simp only [ires, iress, Try.results57, SQ, List.toList_toArray, n1, n2, n3, n4, n5, n6], ?_⟩
    exact .cl (closed_bool _)

theorem w_slices_Equal_api_Seg_api_Seg {fuel : Nat} {s1_1 : List Sg} {s2_1 : List Sg} {r0_ : Bool} (h : p_slices_Equal_api_Seg_api_Seg fuel s1_1 s2_1 = some r0_) : Pure1 Try.prog 114 [.sim (s1_1.map eSg) false, .sim (s2_1.map eSg) false] (.bool r0_) := by
  refine Pure1_S (all_cl (cl_map cl_eSg s1_1) (all_cl (cl_map cl_eSg s2_1) all_cl0)) fun F H s0 => ?_
  refine U_call 0 Try.func114 rfl (by kernel_rfl) (by simp [Try.ntmps114]) ?_
  rw [Try.ntmps114]
  refine U_fr 26 [(0, .sim (s1_1.map eSg) false), (1, .sim (s2_1.map eSg) false)] rfl rfl rfl ?_
  unfold p_slices_Equal_api_Seg_api_Seg at h
  refine U_seq ?_
  refine U_reg ?_
  simp only [SQ, n1, n2, n3, n4, n5, n6]
  refine hold_intro ?_
  refine U_seq ?_
  refine U_seq ?_
  refine U_reg ?_
  simp only [SQ, len_sim ty91 rfl, n1, n2, n3, n4, n5, n6]
  refine hold_intro ?_
  rcases Bool.eq_false_or_eq_true (decide ((s1_1.length : Int) ≠ (s2_1.length : Int))) with hb1 | hb1
  ·
    rw [if_pos hb1] at h
    refine U_condT (by simp only [SQ, hb1, n1, n2, n3, n4, n5, n6]) ?_
    refine U_seq ?_
    refine U_reg ?_
    simp only [SQ, hb1, n1, n2, n3, n4, n5, n6]
    refine hold_intro ?_
    refine U_ret ?_
    replace h := Option.some.inj h
    subst h
    refine ⟨.bool false, by simp only [ires, iress, Try.results114, SQ, List.toList_toArray, hb1, n1, n2, n3, n4, n5, n6], ?_⟩
    exact .cl (closed_bool _)
  ·
    rw [if_neg (by rw [hb1]; decide)] at h
    refine U_condF (by simp only [SQ, hb1, n1, n2, n3, n4, n5, n6]) ?_
    refine U_skip ?_
    refine U_seq ?_
    refine U_seq ?_
    refine U_reg ?_
    simp only [SQ, len_sim ty91 rfl, hb1, n1, n2, n3, n4, n5, n6]
    refine hold_intro ?_
    refine U_fr 26 [(0, .sim (s1_1.map eSg) false), (1, .sim (s2_1.map eSg) false), (12, .int .i64 (s1_1.length : Int)), (13, .int .i64 0)] rfl rfl rfl ?_
    obtain ⟨u1, he1, h⟩ := bndE h
    refine U_cut (fun a' H' => ∃ x_1 : Int, u1 = .n x_1 ∧ Fi a' 26 [] ∧ HS F [] H') (U_block (U_loop (fun z_ a' H' => match z_ with | (m1, x_1) => loopE m1 (fun s => p_slices_Equal_api_Seg_api_Seg_b1 fuel s1_1 s2_1 s) x_1 = some u1 ∧ Fi a' 26 [(0, .sim (s1_1.map eSg) false), (1, .sim (s2_1.map eSg) false), (12, .int .i64 (s1_1.length : Int)), (13, .int .i64 x_1)] ∧ HS F [] H' : (Nat × Int) → Fr → Heap → Prop) (fun z_ : Nat × Int => z_.1) (fuel, 0) ?_ ?_)) ?_
    · exact ⟨he1, ⟨rfl, rfl, by first | rfl | simp only [SQ, hb1, n1, n2, n3, n4, n5, n6]⟩, s0⟩
    ·
      rintro ⟨m1, x_1⟩ a1 H1 ⟨hf1, f1, s1⟩
      refine U_fi f1 ?_
      obtain ⟨m1', m1_lt, u2, hr1, hl2⟩ := loopE_step hf1
      replace hr1 : p_slices_Equal_api_Seg_api_Seg_b1 fuel s1_1 s2_1 x_1 = some u2 := hr1
      unfold p_slices_Equal_api_Seg_api_Seg_b1 at hr1
      refine U_seq ?_
      refine U_reg ?_
      simp only [SQ, hb1, n1, n2, n3, n4, n5, n6]
      refine hold_intro ?_
      refine U_seq ?_
      rcases Bool.eq_false_or_eq_true (decide (x_1 < (s1_1.length : Int))) with hb2 | hb2
      ·
        rw [if_pos hb2] at hr1
        refine U_condT (by simp only [SQ, hb1, hb2, n1, n2, n3, n4, n5, n6]) ?_
        refine U_skip ?_
        refine U_seq ?_
        refine U_block ?_
        refine U_seq ?_
        refine U_reg ?_
        simp only [SQ, hb1, hb2, n1, n2, n3, n4, n5, n6]
        refine hold_intro ?_
        refine U_seq ?_
        refine U_fr 26 [(0, .sim (s1_1.map eSg) false), (1, .sim (s2_1.map eSg) false), (5, .int .i64 x_1), (12, .int .i64 (s1_1.length : Int)), (13, .int .i64 x_1)] rfl rfl rfl ?_
        obtain ⟨x1, kx1, hr1⟩ := bndO hr1
        obtain ⟨x2, kx2, hr1⟩ := bndO hr1
        refine U_drawQ hm [0, 0, 3, 7, 0, 0, 48, 112, 255] false 8 (by decide +kernel) (by decide) ?_
        simp only [SQ, ty91, ty155, iia_sim (f := eSg) ty91 rfl ty155 kx1 rfl, row_sim (f := eSg) kx1, sSg, iia_sim (f := eSg) ty91 rfl ty155 kx2 rfl, row_sim (f := eSg) kx2, qSg, hb1, hb2, n1, n2, n3, n4, n5, n6]
        refine hold_intro ?_
        rcases Bool.eq_false_or_eq_true ((!decide (x1 = x2))) with hb3 | hb3
        ·
          rw [if_pos hb3] at hr1
          refine U_condT (by simp only [SQ, hb1, hb2, hb3, n1, n2, n3, n4, n5, n6]) ?_
          refine U_seq ?_
          refine U_reg ?_
          simp only [SQ, hb1, hb2, hb3, n1, n2, n3, n4, n5, n6]
          refine hold_intro ?_
          refine U_ret ?_
          replace hr1 := Option.some.inj hr1
          subst hr1
          replace hl2 : u1 = .r _ := hl2
          subst hl2
          replace h := outE_r h
          replace h := Option.some.inj h
          subst h
          refine ⟨.bool false, by simp only [ires, iress, Try.results114, SQ, List.toList_toArray, hb1, hb2, hb3, n1, n2, n3, n4, n5, n6], ?_⟩
          exact .cl (closed_bool _)
        ·
          rw [if_neg (by rw [hb3]; decide)] at hr1
          refine U_condF (by simp only [SQ, hb1, hb2, hb3, n1, n2, n3, n4, n5, n6]) ?_
          refine U_skip ?_
          refine U_reg ?_
          simp only [SQ, hb1, hb2, hb3, n1, n2, n3, n4, n5, n6]
          refine hold_intro ?_
          replace hr1 := Option.some.inj hr1
          subst hr1
          exact ⟨(m1', IntKind.wrap .i64 (x_1 + 1)), m1_lt, hl2, ⟨rfl, rfl, by first | rfl | simp only [SQ, hb1, hb2, hb3, n1, n2, n3, n4, n5, n6]⟩, s1⟩
      ·
        rw [if_neg (by rw [hb2]; decide)] at hr1
        refine U_condF (by simp only [SQ, hb1, hb2, n1, n2, n3, n4, n5, n6]) ?_
        refine U_exit rfl ?_
        replace hr1 := Option.some.inj hr1
        subst hr1
        exact ⟨_, hl2, ⟨rfl, rfl, by first | rfl | simp only [SQ, hb1, hb2, n1, n2, n3, n4, n5, n6]⟩, s1⟩
    ·
      rintro a2 H2 ⟨x_2, rfl, f2, s2⟩
      replace h := outE_n h
      refine U_fi f2 ?_
      refine U_seq ?_
      refine U_reg ?_
      simp only [SQ, hb1, n1, n2, n3, n4, n5, n6]
      refine hold_intro ?_
      refine U_ret ?_
      replace h := Option.some.inj h
      subst h
      refine ⟨.bool true, by simp only [ires, iress, Try.results114, SQ, List.toList_toArray, hb1, n1, n2, n3, n4, n5, n6], ?_⟩
      exact .cl (closed_bool _)

theorem w_ir_SameAlloc {fuel : Nat} {av_1 : Al} {b_1 : Al} {r0_ : Bool} (h : p_ir_SameAlloc fuel av_1 b_1 = some r0_) : Pure1 Try.prog 58 [.agg (eAl av_1), .agg (eAl b_1)] (.bool r0_) := by
  refine Pure1_S (all_cl (cl_agg (cl_eAl _)) (all_cl (cl_agg (cl_eAl _)) all_cl0)) fun F H s0 => ?_
  refine U_call 0 Try.func58 rfl (by kernel_rfl) (by simp [Try.ntmps58]) ?_
  rw [Try.ntmps58]
  refine U_fr 17 [(0, .agg (eAl av_1)), (1, .agg (eAl b_1))] rfl rfl rfl ?_
  unfold p_ir_SameAlloc at h
  refine U_seq ?_
  refine U_reg ?_
  simp only [SQ, ty93, sAl, n1, n2, n3, n4, n5, n6]
  refine N_box s0 rfl fun d1 H1 s1 => ?_
  simp only [SQ, ty93, sAl, n1, n2, n3, n4, n5, n6]
  refine N_box s1 rfl fun d2 H2 s2 => ?_
  simp only [SQ, n1, n2, n3, n4, n5, n6]
  refine hold_intro ?_
  refine U_seq ?_
  refine U_fr 17 [(2, .pb d1 0 0), (3, .pb d2 0 0), (4, .bool false)] rfl rfl rfl ?_
  obtain ⟨b1, kb1, h⟩ := bndO h
  refine U_cut (fun a' H' => Fi a' 17 [(4, .bool b1)] ∧ H2 = H') ?_ ?_
  · refine U_reg ?_
    rcases Bool.eq_false_or_eq_true (decide (av_1.slots = b_1.slots)) with hb1 | hb1
    ·
      have hx1 := hb1
      rw [if_pos hx1] at kb1
      obtain ⟨r1, kr1, kb1⟩ := bndO kb1
      have hq1 := (Option.some.inj kb1).symm
      simp only [SQ, ty93, ty3, s2.b 1 rfl, sAl, s2.b 0 rfl, ty91, hb1, hq1, n1, n2, n3, n4, n5, n6]
      refine callP (w_slices_Equal_api_Seg_api_Seg kr1) ?_
      simp only [SQ, hb1, hq1, n1, n2, n3, n4, n5, n6]
      refine hold_intro ?_
      exact ⟨⟨rfl, rfl, by first | rfl | simp only [SQ, hb1, hq1, n1, n2, n3, n4, n5, n6]⟩, rfl⟩
    ·
      have hx2 := hb1
      rw [if_neg (by rw [hx2]; decide)] at kb1
      have hq2 := (Option.some.inj kb1).symm
      simp only [SQ, ty93, ty3, s2.b 1 rfl, sAl, s2.b 0 rfl, hb1, hq2, n1, n2, n3, n4, n5, n6]
      refine hold_intro ?_
      exact ⟨⟨rfl, rfl, by first | rfl | simp only [SQ, hb1, hq2, n1, n2, n3, n4, n5, n6]⟩, rfl⟩
  · rintro a1 _ ⟨f1, rfl⟩
    refine U_fi f1 ?_
    refine U_ret ?_
    replace h := Option.some.inj h
    subst h
    refine ⟨.bool b1, by simp only [ires, iress, Try.results58, SQ, List.toList_toArray, n1, n2, n3, n4, n5, n6], ?_⟩
    exact .cl (closed_bool _)

end Go.Proofs.Ytodafoajkajnkaa.IL
