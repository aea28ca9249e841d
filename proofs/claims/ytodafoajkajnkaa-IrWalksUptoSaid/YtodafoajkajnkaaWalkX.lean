/- The code of functions computes the pure ones. Printed by tq.py. -/
import Derived.Test.YtodafoajkajnkaaWalkX1
import Derived.Test.YtodafoajkajnkaaQT
import Derived.Test.YtodafoajkajnkaaSL
import Derived.Test.YtodafoajkajnkaaWalkP
set_option linter.unusedVariables false
set_option linter.unusedSimpArgs false
set_option linter.defProp false
set_option maxRecDepth 100000
set_option maxHeartbeats 2000000
namespace Go.Proofs.Ytodafoajkajnkaa.IL
open Go Go.RowKit PL
open Nat renaming reduceLT → n1, reduceEqDiff → n2, reduceAdd → n3, reduceLeDiff → n4, reduceMul → n5
open Int renaming reduceEq → n6
theorem w_ir_turned_at_dyehouselaw12_IrWalks_1 {fuel : Nat} {l_1 : List Opd} {r0_ : List Opd} (h : p_ir_turned_at_dyehouselaw12_IrWalks_1 fuel l_1 = some r0_) : Pure1 Try.prog 104 [.sim (l_1.map eOpd) false, .fn (.func 38) [] []] (.sim (r0_.map eOpd) false) := by
  refine Pure1_S (all_cl (cl_map cl_eOpd l_1) (all_cl (closed_fn _) all_cl0)) fun F H s0 => ?_
  refine U_call 0 Try.func104 rfl (by kernel_rfl) (by simp [Try.ntmps104]) ?_
  rw [Try.ntmps104]
  refine U_fr 26 [(0, .sim (l_1.map eOpd) false), (1, .fn (.func 38) [] [])] rfl rfl rfl ?_
  unfold p_ir_turned_at_dyehouselaw12_IrWalks_1 at h
  refine U_seq ?_
  refine U_reg ?_
  simp only [SQ, n1, n2, n3, n4, n5, n6]
  refine hold_intro ?_
  refine U_seq ?_
  obtain ⟨l1, kl1, h⟩ := bndO h
  refine U_reg ?_
  simp only [SQ, len_sim ty23 rfl, ty23, ty58, imk_some (d := 10) (f := eOpd) ty23 rfl ty58 rfl rfl (by decide) kl1, n1, n2, n3, n4, n5, n6]
  refine N_sl l1 R58i s0 rfl rfl (by first | rfl | simp only [SQ]) (by first | rfl | simp only [List.length_map, List.length_replicate]) (zip_flat rfl) ?_
  intro v1 H1 s1
  simp only [SQ, n1, n2, n3, n4, n5, n6]
  refine hold_intro ?_
  refine U_seq ?_
  refine U_seq ?_
  refine U_reg ?_
  simp only [SQ, len_sim ty23 rfl, n1, n2, n3, n4, n5, n6]
  refine hold_intro ?_
  refine U_fr 26 [(1, .fn (.func 38) [] []), (5, v1), (11, .sim (l_1.map eOpd) false), (12, .int .i64 (l_1.length : Int)), (13, .int .i64 0)] rfl rfl rfl ?_
  obtain ⟨u1, he1, h⟩ := bndE h
  refine U_cut (fun a' H' => ∃ x_1 : Int, ∃ out_1 : List Opd, u1 = .n (x_1, out_1) ∧ Fi a' 26 [(1, .fn (.func 38) [] []), (5, v1)] ∧ HS F [sl R58i v1 out_1] H') (U_block (U_loop (fun z_ a' H' => match z_ with | (m1, x_1, out_1) => loopE m1 (fun s => p_ir_turned_at_dyehouselaw12_IrWalks_1_b1 fuel l_1 s.1 s.2) (x_1, out_1) = some u1 ∧ Fi a' 26 [(1, .fn (.func 38) [] []), (5, v1), (11, .sim (l_1.map eOpd) false), (12, .int .i64 (l_1.length : Int)), (13, .int .i64 x_1)] ∧ HS F [sl R58i v1 out_1] H' : (Nat × Int × (List Opd)) → Fr → Heap → Prop) (fun z_ : Nat × Int × (List Opd) => z_.1) (fuel, 0, l1) ?_ ?_)) ?_
  · exact ⟨he1, ⟨rfl, rfl, rfl⟩, s1⟩
  ·
    rintro ⟨m1, x_1, out_1⟩ a1 H2 ⟨hf1, f1, s2⟩
    refine U_fi f1 ?_
    obtain ⟨m1', m1_lt, u2, hr1, hl2⟩ := loopE_step hf1
    replace hr1 : p_ir_turned_at_dyehouselaw12_IrWalks_1_b1 fuel l_1 x_1 out_1 = some u2 := hr1
    unfold p_ir_turned_at_dyehouselaw12_IrWalks_1_b1 at hr1
    refine U_seq ?_
    refine U_reg ?_
    simp only [SQ, n1, n2, n3, n4, n5, n6]
    refine hold_intro ?_
    refine U_seq ?_
    rcases Bool.eq_false_or_eq_true (decide (x_1 < (l_1.length : Int))) with hb1 | hb1
    ·
      rw [if_pos hb1] at hr1
      refine U_condT (by simp only [SQ, hb1, n1, n2, n3, n4, n5, n6]) ?_
      refine U_skip ?_
      refine U_seq ?_
      refine U_block ?_
      refine U_seq ?_
      obtain ⟨x1, kx1, hr1⟩ := bndO hr1
      refine U_reg ?_
      simp only [SQ, ty23, ty58, iia_sim (f := eOpd) ty23 rfl ty58 kx1 rfl, row_sim (f := eOpd) kx1, sOpd, hb1, n1, n2, n3, n4, n5, n6]
      refine N_box s2 rfl fun d1 H3 s3 => ?_
      simp only [SQ, ty58, sOpd, splice_all', s3.b 0 rfl, hb1, n1, n2, n3, n4, n5, n6]
      refine N_put 0 s3 rfl fun H4 s4 => ?_
      simp only [SQ, hb1, n1, n2, n3, n4, n5, n6]
      refine hold_intro ?_
      refine U_fr 26 [(1, .fn (.func 38) [] []), (5, v1), (6, .int .i64 x_1), (7, .pb d1 0 0), (11, .sim (l_1.map eOpd) false), (12, .int .i64 (l_1.length : Int)), (13, .int .i64 x_1)] rfl rfl rfl ?_
      obtain ⟨r1, kr1, hr1⟩ := bndO hr1
      obtain ⟨x2, kx2, hr1⟩ := bndO hr1
      obtain ⟨l2, kl2, hr1⟩ := bndO hr1
      refine U_reg ?_
      simp only [SQ, ty58, s4.b 0 rfl, sOpd, hb1, n1, n2, n3, n4, n5, n6]
      refine callP (w_dyehouselaw12_IrWalks_1 kr1) ?_
      obtain ⟨w1_i, w1_r, w1_a, w1_1⟩ := s4.at (P := Try.prog) (k := .i64) 1 rfl ty23 rfl ty58 rfl kx2
      simp only [SQ, ty23, ty58, w1_1, hb1, n1, n2, n3, n4, n5, n6]
      refine N_st (y := r1) 1 s4 rfl w1_a kx2 ty58 rfl (by first | rfl | simp only [SQ, sOpd, splice_all', hb1, n1, n2, n3, n4, n5, n6]) (by first | decide | simp only [SQ, sOpd, splice_all', hb1, n1, n2, n3, n4, n5, n6] <;> decide) (by simp only [SQ, sOpd, splice_all', hb1, n1, n2, n3, n4, n5, n6]) (by first | rfl | simp only [SQ, sOpd, splice_all', hb1, n1, n2, n3, n4, n5, n6] <;> rfl) kl2 fun H5 s5 => ?_
      simp only [SQ, hb1, n1, n2, n3, n4, n5, n6]
      refine hold_intro ?_
      refine U_reg ?_
      simp only [SQ, hb1, n1, n2, n3, n4, n5, n6]
      refine hold_intro ?_
      replace hr1 := Option.some.inj hr1
      subst hr1
      exact ⟨(m1', IntKind.wrap .i64 (x_1 + 1), l2), m1_lt, hl2, ⟨rfl, rfl, by first | rfl | simp only [SQ, hb1, n1, n2, n3, n4, n5, n6]⟩, s5.sel [1] (by decide)⟩
    ·
      rw [if_neg (by rw [hb1]; decide)] at hr1
      refine U_condF (by simp only [SQ, hb1, n1, n2, n3, n4, n5, n6]) ?_
      refine U_exit rfl ?_
      replace hr1 := Option.some.inj hr1
      subst hr1
      exact ⟨_, _, hl2, ⟨rfl, rfl, by first | rfl | simp only [SQ, hb1, n1, n2, n3, n4, n5, n6]⟩, s2⟩
  ·
    rintro a2 H6 ⟨x_2, out_2, rfl, f2, s6⟩
    replace h := outE_n h
    dsimp only at h
    refine U_fi f2 ?_
    refine U_seq ?_
    refine U_reg ?_
    simp only [SQ, n1, n2, n3, n4, n5, n6]
    refine hold_intro ?_
    refine U_ret ?_
    replace h := Option.some.inj h
    subst h
    refine ⟨v1, by simp only [ires, iress, Try.results104, SQ, List.toList_toArray, n1, n2, n3, n4, n5, n6], ?_⟩
    exact s6.fzS 0 rfl

theorem w_ir_MapInstr_at_dyehouselaw12_IrWalks_1 {fuel : Nat} {i_1 : Ins} {r0_ : Ins} (h : p_ir_MapInstr_at_dyehouselaw12_IrWalks_1 fuel i_1 = some r0_) : Pure1 Try.prog 43 [.agg (eIns i_1), .fn (.func 38) [] []] (.agg (eIns r0_)) := by
  refine Pure1_S (all_cl (cl_agg (cl_eIns _)) (all_cl (closed_fn _) all_cl0)) fun F H s0 => ?_
  refine U_call 0 Try.func43 rfl (by kernel_rfl) (by simp [Try.ntmps43]) ?_
  rw [Try.ntmps43]
  refine U_fr 19 [(0, .agg (eIns i_1)), (1, .fn (.func 38) [] [])] rfl rfl rfl ?_
  unfold p_ir_MapInstr_at_dyehouselaw12_IrWalks_1 at h
  refine U_seq ?_
  refine U_reg ?_
  simp only [SQ, ty66, sIns, n1, n2, n3, n4, n5, n6]
  refine N_box s0 rfl fun d1 H1 s1 => ?_
  simp only [SQ, ty66, n1, n2, n3, n4, n5, n6]
  refine N_box s1 rfl fun d2 H2 s2 => ?_
  simp only [SQ, n1, n2, n3, n4, n5, n6]
  refine hold_intro ?_
  refine U_seq ?_
  obtain ⟨r1, kr1, h⟩ := bndO h
  refine U_reg ?_
  simp only [SQ, ty66, s2.b 1 rfl, sIns, n1, n2, n3, n4, n5, n6]
  refine callP (w_ir_CopyInstr kr1) ?_
  simp only [SQ, ty66, n1, n2, n3, n4, n5, n6]
  refine N_box s2 rfl fun d3 H3 s3 => ?_
  simp only [SQ, ty66, sIns, splice_all', s3.b 0 rfl, n1, n2, n3, n4, n5, n6]
  refine N_put 0 s3 rfl fun H4 s4 => ?_
  simp only [SQ, n1, n2, n3, n4, n5, n6]
  refine hold_intro ?_
  refine U_seq ?_
  obtain ⟨r2, kr2, h⟩ := bndO h
  refine U_reg ?_
  simp only [SQ, ty66, ty58, s4.b 2 rfl, sIns, n1, n2, n3, n4, n5, n6]
  refine callP (w_dyehouselaw12_IrWalks_1 kr2) ?_
  simp only [SQ, ty66, ty58, sOpd, xOpd, sIns, s4.b 0 rfl, n1, n2, n3, n4, n5, n6]
  refine N_put 0 s4 rfl fun H5 s5 => ?_
  simp only [SQ, n1, n2, n3, n4, n5, n6]
  refine hold_intro ?_
  refine U_seq ?_
  obtain ⟨r3, kr3, h⟩ := bndO h
  refine U_reg ?_
  simp only [SQ, ty66, ty23, s5.b 2 rfl, sIns, n1, n2, n3, n4, n5, n6]
  refine callP (w_ir_turned_at_dyehouselaw12_IrWalks_1 kr3) ?_
  simp only [SQ, ty66, ty23, s5.b 0 rfl, n1, n2, n3, n4, n5, n6]
  refine N_put 0 s5 rfl fun H6 s6 => ?_
  simp only [SQ, n1, n2, n3, n4, n5, n6]
  refine hold_intro ?_
  refine U_seq ?_
  refine U_fr 19 [(1, .fn (.func 38) [] []), (4, .pb d2 0 0), (5, .pb d3 0 0)] rfl rfl rfl ?_
  refine U_reg ?_
  simp only [SQ, ty66, s6.b 0 rfl, s6.b 1 rfl, n1, n2, n3, n4, n5, n6]
  refine N_put 1 s6 rfl fun H7 s7 => ?_
  simp only [SQ, n1, n2, n3, n4, n5, n6]
  refine hold_intro ?_
  refine U_ret ?_
  replace h := Option.some.inj h
  subst h
  refine ⟨.agg [.int .i64 r1.op, .int .i64 r2.kind, .int .i64 r2.cls, .int .i64 r2.n, .int .i64 r2.tag, .sim (r3.map eOpd) false, .str r1.name, .int .i64 r1.off, .sim (r1.labels.map eStr) false, .sim (r1.cases.map eInt) false], by simp only [ires, iress, Try.results43, SQ, List.toList_toArray, s7.b 1 rfl, ty66, n1, n2, n3, n4, n5, n6], ?_⟩
  exact Fz_agg (.cons (.cl (closed_int _ _)) (.cons (.cl (closed_int _ _)) (.cons (.cl (closed_int _ _)) (.cons (.cl (closed_int _ _)) (.cons (.cl (closed_int _ _)) (.cons (.cl (cl_map cl_eOpd r3)) (.cons (.cl (closed_str _)) (.cons (.cl (closed_int _ _)) (.cons (.cl (cl_map cl_eStr r1.labels)) (.cons (.cl (cl_map cl_eInt r1.cases)) (.nil)))))))))))

theorem w_ir_Map_at_dyehouselaw12_IrWalks_1 {fuel : Nat} {f_1 : Fnc} {r0_ : Fnc} (h : p_ir_Map_at_dyehouselaw12_IrWalks_1 fuel f_1 = some r0_) : Pure1 Try.prog 37 [.agg (eFnc f_1), .fn (.func 38) [] []] (.agg (eFnc r0_)) := by
  refine Pure1_S (all_cl (cl_agg (cl_eFnc _)) (all_cl (closed_fn _) all_cl0)) fun F H s0 => ?_
  refine U_call 0 Try.func37 rfl (by kernel_rfl) (by simp [Try.ntmps37]) ?_
  rw [Try.ntmps37]
  refine U_fr 67 [(0, .agg (eFnc f_1)), (1, .fn (.func 38) [] [])] rfl rfl rfl ?_
  unfold p_ir_Map_at_dyehouselaw12_IrWalks_1 at h
  refine U_seq ?_
  refine U_reg ?_
  simp only [SQ, ty26, sFnc, n1, n2, n3, n4, n5, n6]
  refine N_box s0 rfl fun d1 H1 s1 => ?_
  simp only [SQ, ty26, n1, n2, n3, n4, n5, n6]
  refine N_box s1 rfl fun d2 H2 s2 => ?_
  simp only [SQ, n1, n2, n3, n4, n5, n6]
  refine hold_intro ?_
  refine U_seq ?_
  refine U_reg ?_
  simp only [SQ, ty26, s2.b 1 rfl, sFnc, n1, n2, n3, n4, n5, n6]
  refine N_box s2 rfl fun d3 H3 s3 => ?_
  simp only [SQ, ty26, sFnc, splice_all', s3.b 0 rfl, n1, n2, n3, n4, n5, n6]
  refine N_put 0 s3 rfl fun H4 s4 => ?_
  simp only [SQ, n1, n2, n3, n4, n5, n6]
  refine hold_intro ?_
  refine U_seq ?_
  obtain ⟨r1, kr1, h⟩ := bndO h
  refine U_reg ?_
  simp only [SQ, ty26, ty22, s4.b 2 rfl, sFnc, n1, n2, n3, n4, n5, n6]
  refine callP (w_slices_Clone_api_Reg_api_Reg kr1) ?_
  simp only [SQ, ty26, ty22, sFnc, s4.b 0 rfl, n1, n2, n3, n4, n5, n6]
  refine N_put 0 s4 rfl fun H5 s5 => ?_
  simp only [SQ, n1, n2, n3, n4, n5, n6]
  refine hold_intro ?_
  refine U_seq ?_
  obtain ⟨r2, kr2, h⟩ := bndO h
  refine U_reg ?_
  simp only [SQ, ty26, ty23, s5.b 2 rfl, sFnc, n1, n2, n3, n4, n5, n6]
  refine callP (w_ir_turned_at_dyehouselaw12_IrWalks_1 kr2) ?_
  simp only [SQ, ty26, ty23, s5.b 0 rfl, n1, n2, n3, n4, n5, n6]
  refine N_put 0 s5 rfl fun H6 s6 => ?_
  simp only [SQ, n1, n2, n3, n4, n5, n6]
  refine hold_intro ?_
  refine U_seq ?_
  refine U_fr 67 [(1, .fn (.func 38) [] []), (2, .pb d1 0 0), (4, .pb d2 0 0), (5, .pb d3 0 0)] rfl rfl rfl ?_
  obtain ⟨l1, kl1, h⟩ := bndO h
  refine U_reg ?_
  simp only [SQ, ty26, ty24, s6.b 2 rfl, sFnc, len_sim ty24 rfl, ty63, imk_zero (d := 24) ty24 rfl ty63 rfl rfl (by decide) kl1, n1, n2, n3, n4, n5, n6]
  refine N_lit s6 rfl fun d4 H7 s7 => ?_
  simp only [SQ, ty26, ty24, s7.b 1 rfl, n1, n2, n3, n4, n5, n6]
  refine N_put 1 s7 rfl fun H8 s8 => ?_
  simp only [SQ, n1, n2, n3, n4, n5, n6]
  refine hold_intro ?_
  refine U_fr 67 [(1, .fn (.func 38) [] []), (2, .pb d1 0 0), (4, .pb d2 0 0), (5, .pb d3 0 0)] rfl rfl rfl ?_
  refine U_rowsN (f := eBl) (fl := true) (hm := fun _ => rfl) (hc := cl_eBl) l1 0 s8 rfl rfl rfl (rowsN_mk kl1 (.s (.s (.x .n (.x .n .nil))))) fun H9 s9 => ?_
  refine U_seq ?_
  refine U_seq ?_
  refine U_reg ?_
  simp only [SQ, ty26, ty24, s9.b 3 rfl, sFnc, len_sim ty24 rfl, n1, n2, n3, n4, n5, n6]
  refine hold_intro ?_
  refine U_fr 67 [(1, .fn (.func 38) [] []), (4, .pb d2 0 0), (5, .pb d3 0 0), (27, .sim (f_1.blocks.map eBl) false), (28, .int .i64 (f_1.blocks.length : Int)), (29, .int .i64 0)] rfl rfl rfl ?_
  obtain ⟨u1, he1, h⟩ := bndE h
  refine U_cut (fun a' H' => ∃ x_1 : Int, ∃ c1 : List Bl, u1 = .n (x_1, c1) ∧ Fi a' 67 [(1, .fn (.func 38) [] []), (4, .pb d2 0 0), (5, .pb d3 0 0)] ∧ HS F [pt d2 ⟨5, [[.bool false, .str (⟨#[]⟩ : ByteArray), .nils, .nils, .nils]]⟩, pt d3 ⟨5, [[.bool f_1.machine, .str f_1.name, .sim (r1.map eRg) false, .sim (r2.map eOpd) false, .sb d4 0 l1.length true]]⟩, sl R63i (.sb d4 0 l1.length true) c1] H') (U_block (U_loop (fun z_ a' H' => match z_ with | (m1, x_1, c1) => loopE m1 (fun s => p_ir_Map_at_dyehouselaw12_IrWalks_1_b1 fuel f_1 s.1 s.2) (x_1, c1) = some u1 ∧ Fi a' 67 [(1, .fn (.func 38) [] []), (4, .pb d2 0 0), (5, .pb d3 0 0), (27, .sim (f_1.blocks.map eBl) false), (28, .int .i64 (f_1.blocks.length : Int)), (29, .int .i64 x_1)] ∧ HS F [pt d2 ⟨5, [[.bool false, .str (⟨#[]⟩ : ByteArray), .nils, .nils, .nils]]⟩, pt d3 ⟨5, [[.bool f_1.machine, .str f_1.name, .sim (r1.map eRg) false, .sim (r2.map eOpd) false, .sb d4 0 l1.length true]]⟩, sl R63i (.sb d4 0 l1.length true) c1] H' : (Nat × Int × (List Bl)) → Fr → Heap → Prop) (fun z_ : Nat × Int × (List Bl) => z_.1) (fuel, 0, l1) ?_ ?_)) ?_
  · exact ⟨he1, ⟨rfl, rfl, rfl⟩, s9.sel [2, 1, 0] (by decide)⟩
  ·
    rintro ⟨m1, x_1, c1⟩ a1 H10 ⟨hf1, f1, s10⟩
    refine U_fi f1 ?_
    obtain ⟨m1', m1_lt, u2, hr1, hl2⟩ := loopE_step hf1
    replace hr1 : p_ir_Map_at_dyehouselaw12_IrWalks_1_b1 fuel f_1 x_1 c1 = some u2 := hr1
    unfold p_ir_Map_at_dyehouselaw12_IrWalks_1_b1 at hr1
    refine U_seq ?_
    refine U_reg ?_
    simp only [SQ, n1, n2, n3, n4, n5, n6]
    refine hold_intro ?_
    refine U_seq ?_
    rcases Bool.eq_false_or_eq_true (decide (x_1 < (f_1.blocks.length : Int))) with hb1 | hb1
    ·
      rw [if_pos hb1] at hr1
      refine U_condT (by simp only [SQ, hb1, n1, n2, n3, n4, n5, n6]) ?_
      refine U_skip ?_
      refine U_seq ?_
      refine U_block ?_
      refine U_seq ?_
      obtain ⟨x1, kx1, hr1⟩ := bndO hr1
      refine U_reg ?_
      simp only [SQ, ty24, ty63, iia_sim (f := eBl) ty24 rfl ty63 kx1 rfl, row_sim (f := eBl) kx1, sBl, hb1, n1, n2, n3, n4, n5, n6]
      refine N_box s10 rfl fun d5 H11 s11 => ?_
      simp only [SQ, ty63, sBl, splice_all', s11.b 0 rfl, hb1, n1, n2, n3, n4, n5, n6]
      refine N_put 0 s11 rfl fun H12 s12 => ?_
      simp only [SQ, hb1, n1, n2, n3, n4, n5, n6]
      refine hold_intro ?_
      refine U_seq ?_
      refine U_fr 67 [(1, .fn (.func 38) [] []), (4, .pb d2 0 0), (5, .pb d3 0 0), (6, .int .i64 x_1), (7, .pb d5 0 0), (27, .sim (f_1.blocks.map eBl) false), (28, .int .i64 (f_1.blocks.length : Int)), (29, .int .i64 x_1)] rfl rfl rfl ?_
      obtain ⟨r3, kr3, hr1⟩ := bndO hr1
      refine U_reg ?_
      simp only [SQ, ty63, ty23, s12.b 0 rfl, sBl, hb1, n1, n2, n3, n4, n5, n6]
      refine callP (w_ir_turned_at_dyehouselaw12_IrWalks_1 kr3) ?_
      simp only [SQ, ty63, ty23, sBl, s12.b 0 rfl, hb1, n1, n2, n3, n4, n5, n6]
      refine N_put 0 s12 rfl fun H13 s13 => ?_
      simp only [SQ, hb1, n1, n2, n3, n4, n5, n6]
      refine hold_intro ?_
      refine U_seq ?_
      obtain ⟨l2, kl2, hr1⟩ := bndO hr1
      refine U_reg ?_
      simp only [SQ, ty63, ty61, s13.b 0 rfl, len_sim ty61 rfl, ty66, imk_zero (d := 42) ty61 rfl ty66 rfl rfl (by decide) kl2, hb1, n1, n2, n3, n4, n5, n6]
      refine N_lit s13 rfl fun d6 H14 s14 => ?_
      simp only [SQ, hb1, n1, n2, n3, n4, n5, n6]
      refine hold_intro ?_
      refine U_fr 67 [(1, .fn (.func 38) [] []), (4, .pb d2 0 0), (5, .pb d3 0 0), (6, .int .i64 x_1), (7, .pb d5 0 0), (8, .sb d6 0 l2.length true), (27, .sim (f_1.blocks.map eBl) false), (28, .int .i64 (f_1.blocks.length : Int)), (29, .int .i64 x_1)] rfl rfl rfl ?_
      refine U_rowsN (f := eIns) (fl := true) (hm := fun _ => rfl) (hc := cl_eIns) l2 0 s14 rfl rfl rfl (rowsN_mk kl2 (.s (.s (.s (.s (.s (.x .n (.s (.s (.x .n (.x .n .nil))))))))))) fun H15 s15 => ?_
      refine U_seq ?_
      refine U_seq ?_
      refine U_reg ?_
      simp only [SQ, ty63, ty61, s15.b 1 rfl, len_sim ty61 rfl, hb1, n1, n2, n3, n4, n5, n6]
      refine hold_intro ?_
      refine U_fr 67 [(1, .fn (.func 38) [] []), (4, .pb d2 0 0), (5, .pb d3 0 0), (6, .int .i64 x_1), (7, .pb d5 0 0), (8, .sb d6 0 l2.length true), (27, .sim (f_1.blocks.map eBl) false), (28, .int .i64 (f_1.blocks.length : Int)), (29, .int .i64 x_1), (44, .sim (x1.code.map eIns) false), (45, .int .i64 (x1.code.length : Int)), (46, .int .i64 0)] rfl rfl rfl ?_
      obtain ⟨u3, he2, hr1⟩ := bndE hr1
      refine U_cut (fun a' H' => ∃ x_3 : Int, ∃ code_1 : List Ins, u3 = .n (x_3, code_1) ∧ Fi a' 67 [(1, .fn (.func 38) [] []), (4, .pb d2 0 0), (5, .pb d3 0 0), (6, .int .i64 x_1), (7, .pb d5 0 0), (8, .sb d6 0 l2.length true), (27, .sim (f_1.blocks.map eBl) false), (28, .int .i64 (f_1.blocks.length : Int)), (29, .int .i64 x_1)] ∧ HS F [pt d2 ⟨5, [[.bool false, .str (⟨#[]⟩ : ByteArray), .nils, .nils, .nils]]⟩, pt d3 ⟨5, [[.bool f_1.machine, .str f_1.name, .sim (r1.map eRg) false, .sim (r2.map eOpd) false, .sb d4 0 l1.length true]]⟩, sl R63i (.sb d4 0 l1.length true) c1, pt d5 ⟨4, [[.str x1.label, .bool x1.edge, .sim (r3.map eOpd) false, .sim (x1.code.map eIns) false]]⟩, sl R66i (.sb d6 0 l2.length true) code_1] H') (U_block (U_loop (fun z_ a' H' => match z_ with | (m2, x_3, code_1) => loopE m2 (fun s => p_ir_Map_at_dyehouselaw12_IrWalks_1_b2 fuel x1 s.1 s.2) (x_3, code_1) = some u3 ∧ Fi a' 67 [(1, .fn (.func 38) [] []), (4, .pb d2 0 0), (5, .pb d3 0 0), (6, .int .i64 x_1), (7, .pb d5 0 0), (8, .sb d6 0 l2.length true), (27, .sim (f_1.blocks.map eBl) false), (28, .int .i64 (f_1.blocks.length : Int)), (29, .int .i64 x_1), (44, .sim (x1.code.map eIns) false), (45, .int .i64 (x1.code.length : Int)), (46, .int .i64 x_3)] ∧ HS F [pt d2 ⟨5, [[.bool false, .str (⟨#[]⟩ : ByteArray), .nils, .nils, .nils]]⟩, pt d3 ⟨5, [[.bool f_1.machine, .str f_1.name, .sim (r1.map eRg) false, .sim (r2.map eOpd) false, .sb d4 0 l1.length true]]⟩, sl R63i (.sb d4 0 l1.length true) c1, pt d5 ⟨4, [[.str x1.label, .bool x1.edge, .sim (r3.map eOpd) false, .sim (x1.code.map eIns) false]]⟩, sl R66i (.sb d6 0 l2.length true) code_1] H' : (Nat × Int × (List Ins)) → Fr → Heap → Prop) (fun z_ : Nat × Int × (List Ins) => z_.1) (fuel, 0, l2) ?_ ?_)) ?_
      · exact ⟨he2, ⟨rfl, rfl, by first | rfl | simp only [SQ, hb1, n1, n2, n3, n4, n5, n6]⟩, s15.sel [2, 3, 4, 1, 0] (by decide)⟩
      ·
        rintro ⟨m2, x_3, code_1⟩ a2 H16 ⟨hf2, f2, s16⟩
        refine U_fi f2 ?_
        obtain ⟨m2', m2_lt, u4, hr2, hl4⟩ := loopE_step hf2
        replace hr2 : p_ir_Map_at_dyehouselaw12_IrWalks_1_b2 fuel x1 x_3 code_1 = some u4 := hr2
        unfold p_ir_Map_at_dyehouselaw12_IrWalks_1_b2 at hr2
        refine U_seq ?_
        refine U_reg ?_
        simp only [SQ, hb1, n1, n2, n3, n4, n5, n6]
        refine hold_intro ?_
        refine U_seq ?_
        rcases Bool.eq_false_or_eq_true (decide (x_3 < (x1.code.length : Int))) with hb2 | hb2
        ·
          rw [if_pos hb2] at hr2
          refine U_condT (by simp only [SQ, hb1, hb2, n1, n2, n3, n4, n5, n6]) ?_
          refine U_skip ?_
          refine U_seq ?_
          refine U_block ?_
          refine U_seq ?_
          obtain ⟨x2, kx2, hr2⟩ := bndO hr2
          refine U_reg ?_
          simp only [SQ, ty61, ty66, iia_sim (f := eIns) ty61 rfl ty66 kx2 rfl, row_sim (f := eIns) kx2, sIns, hb1, hb2, n1, n2, n3, n4, n5, n6]
          refine N_box s16 rfl fun d7 H17 s17 => ?_
          simp only [SQ, ty66, sIns, splice_all', s17.b 0 rfl, hb1, hb2, n1, n2, n3, n4, n5, n6]
          refine N_put 0 s17 rfl fun H18 s18 => ?_
          simp only [SQ, hb1, hb2, n1, n2, n3, n4, n5, n6]
          refine hold_intro ?_
          obtain ⟨r4, kr4, hr2⟩ := bndO hr2
          obtain ⟨x3, kx3, hr2⟩ := bndO hr2
          obtain ⟨l3, kl3, hr2⟩ := bndO hr2
          refine U_reg ?_
          simp only [SQ, ty66, s18.b 0 rfl, sIns, hb1, hb2, n1, n2, n3, n4, n5, n6]
          refine callP (w_ir_MapInstr_at_dyehouselaw12_IrWalks_1 kr4) ?_
          obtain ⟨w1_i, w1_r, w1_a, w1_1⟩ := s18.at (P := Try.prog) (k := .i64) 5 rfl ty61 rfl ty66 rfl kx3
          simp only [SQ, ty61, ty66, w1_1, hb1, hb2, n1, n2, n3, n4, n5, n6]
          refine N_st (y := r4) 5 s18 rfl w1_a kx3 ty66 rfl (by first | rfl | simp only [SQ, sIns, splice_all', hb1, hb2, n1, n2, n3, n4, n5, n6]) (by first | decide | simp only [SQ, sIns, splice_all', hb1, hb2, n1, n2, n3, n4, n5, n6] <;> decide) (by simp only [SQ, sIns, splice_all', hb1, hb2, n1, n2, n3, n4, n5, n6]) (by first | rfl | simp only [SQ, sIns, splice_all', hb1, hb2, n1, n2, n3, n4, n5, n6] <;> rfl) kl3 fun H19 s19 => ?_
          simp only [SQ, hb1, hb2, n1, n2, n3, n4, n5, n6]
          refine hold_intro ?_
          refine U_fr 67 [(1, .fn (.func 38) [] []), (4, .pb d2 0 0), (5, .pb d3 0 0), (6, .int .i64 x_1), (7, .pb d5 0 0), (8, .sb d6 0 l2.length true), (27, .sim (f_1.blocks.map eBl) false), (28, .int .i64 (f_1.blocks.length : Int)), (29, .int .i64 x_1), (44, .sim (x1.code.map eIns) false), (45, .int .i64 (x1.code.length : Int)), (46, .int .i64 x_3)] rfl rfl rfl ?_
          refine U_reg ?_
          simp only [SQ, hb1, hb2, n1, n2, n3, n4, n5, n6]
          refine hold_intro ?_
          replace hr2 := Option.some.inj hr2
          subst hr2
          exact ⟨(m2', IntKind.wrap .i64 (x_3 + 1), l3), m2_lt, hl4, ⟨rfl, rfl, by first | rfl | simp only [SQ, hb1, hb2, n1, n2, n3, n4, n5, n6]⟩, s19.sel [1, 2, 3, 4, 5] (by decide)⟩
        ·
          rw [if_neg (by rw [hb2]; decide)] at hr2
          refine U_condF (by simp only [SQ, hb1, hb2, n1, n2, n3, n4, n5, n6]) ?_
          refine U_exit rfl ?_
          replace hr2 := Option.some.inj hr2
          subst hr2
          exact ⟨_, _, hl4, ⟨rfl, rfl, by first | rfl | simp only [SQ, hb1, hb2, n1, n2, n3, n4, n5, n6]⟩, s16⟩
      ·
        rintro a3 H20 ⟨x_4, code_2, rfl, f3, s20⟩
        replace hr1 := outE_n hr1
        dsimp only at hr1
        refine U_fi f3 ?_
        refine U_seq ?_
        refine U_reg ?_
        simp only [SQ, ty63, ty61, s20.cf 4 rfl, s20.b 3 rfl, hb1, n1, n2, n3, n4, n5, n6]
        refine N_put 3 s20 rfl fun H21 s21 => ?_
        simp only [SQ, hb1, n1, n2, n3, n4, n5, n6]
        refine hold_intro ?_
        refine U_fr 67 [(1, .fn (.func 38) [] []), (4, .pb d2 0 0), (5, .pb d3 0 0), (6, .int .i64 x_1), (7, .pb d5 0 0), (27, .sim (f_1.blocks.map eBl) false), (28, .int .i64 (f_1.blocks.length : Int)), (29, .int .i64 x_1)] rfl rfl rfl ?_
        refine U_fzS (l' := [(1, .fn (.func 38) [] []), (4, .pb d2 0 0), (5, .pb d3 0 0), (6, .int .i64 x_1), (7, .pb d5 0 0), (27, .sim (f_1.blocks.map eBl) false), (28, .int .i64 (f_1.blocks.length : Int)), (29, .int .i64 x_1)]) (M := [pt d2 ⟨5, [[.bool false, .str (⟨#[]⟩ : ByteArray), .nils, .nils, .nils]]⟩, pt d3 ⟨5, [[.bool f_1.machine, .str f_1.name, .sim (r1.map eRg) false, .sim (r2.map eOpd) false, .sb d4 0 l1.length true]]⟩, sl R63i (.sb d4 0 l1.length true) c1, pt d5 ⟨4, [[.str x1.label, .bool x1.edge, .sim (r3.map eOpd) false, .sim (code_2.map eIns) false]]⟩]) 4 s21 rfl R66i_nl .id (.s (.s (.s (.r (.s (.s (.s (.x .o .id)))) .id)))) fun H22 s22 => ?_
        obtain ⟨x4, kx4, hr1⟩ := bndO hr1
        obtain ⟨l4, kl4, hr1⟩ := bndO hr1
        refine U_reg ?_
        obtain ⟨w2_i, w2_r, w2_a, w2_1⟩ := s22.at (P := Try.prog) (k := .i64) 2 rfl ty24 rfl ty63 rfl kx4
        simp only [SQ, ty26, ty24, s22.b 1 rfl, ty63, s22.b 3 rfl, w2_1, hb1, n1, n2, n3, n4, n5, n6]
        refine N_st (y := (⟨x1.label, x1.edge, r3, code_2⟩ : Bl)) 2 s22 rfl w2_a kx4 ty63 rfl (by first | rfl | simp only [SQ, sBl, hb1, n1, n2, n3, n4, n5, n6]) (by first | decide | simp only [SQ, sBl, hb1, n1, n2, n3, n4, n5, n6] <;> decide) (by simp only [SQ, sBl, hb1, n1, n2, n3, n4, n5, n6]) (by first | rfl | simp only [SQ, sBl, hb1, n1, n2, n3, n4, n5, n6] <;> rfl) kl4 fun H23 s23 => ?_
        simp only [SQ, hb1, n1, n2, n3, n4, n5, n6]
        refine hold_intro ?_
        refine U_reg ?_
        simp only [SQ, hb1, n1, n2, n3, n4, n5, n6]
        refine hold_intro ?_
        replace hr1 := Option.some.inj hr1
        subst hr1
        exact ⟨(m1', IntKind.wrap .i64 (x_1 + 1), l4), m1_lt, hl2, ⟨rfl, rfl, by first | rfl | simp only [SQ, hb1, n1, n2, n3, n4, n5, n6]⟩, s23.sel [0, 1, 2] (by decide)⟩
    ·
      rw [if_neg (by rw [hb1]; decide)] at hr1
      refine U_condF (by simp only [SQ, hb1, n1, n2, n3, n4, n5, n6]) ?_
      refine U_exit rfl ?_
      replace hr1 := Option.some.inj hr1
      subst hr1
      exact ⟨_, _, hl2, ⟨rfl, rfl, by first | rfl | simp only [SQ, hb1, n1, n2, n3, n4, n5, n6]⟩, s10⟩
  ·
    rintro a4 H24 ⟨x_2, c2, rfl, f4, s24⟩
    replace h := outE_n h
    dsimp only at h
    refine U_fi f4 ?_
    refine U_seq ?_
    refine U_reg ?_
    simp only [SQ, ty26, s24.b 1 rfl, s24.cf 2 rfl, s24.b 0 rfl, n1, n2, n3, n4, n5, n6]
    refine N_put 0 s24 rfl fun H25 s25 => ?_
    simp only [SQ, n1, n2, n3, n4, n5, n6]
    refine hold_intro ?_
    refine U_ret ?_
    replace h := Option.some.inj h
    subst h
    refine ⟨.agg [.bool f_1.machine, .str f_1.name, .sim (r1.map eRg) false, .sim (r2.map eOpd) false, .sb d4 0 l1.length true], by simp only [ires, iress, Try.results37, SQ, List.toList_toArray, s25.b 0 rfl, ty26, n1, n2, n3, n4, n5, n6], ?_⟩
    exact Fz_agg (.cons (.cl (closed_bool _)) (.cons (.cl (closed_str _)) (.cons (.cl (cl_map cl_eRg r1)) (.cons (.cl (cl_map cl_eOpd r2)) (.cons (s25.fzS 2 rfl) (.nil))))))

theorem w_dyehouselaw12_IrWalks_2 {fuel : Nat} {o_1 : Opd} {r0_ : Opd} (h : p_dyehouselaw12_IrWalks_2 fuel o_1 = some r0_) : Pure1 Try.prog 39 [.agg (eOpd o_1)] (.agg (eOpd r0_)) := by
  refine Pure1_S (all_cl (cl_agg (cl_eOpd _)) all_cl0) fun F H s0 => ?_
  refine U_call 0 Try.func39 rfl (by kernel_rfl) (by simp [Try.ntmps39]) ?_
  rw [Try.ntmps39]
  refine U_fr 12 [(0, .agg (eOpd o_1))] rfl rfl rfl ?_
  unfold p_dyehouselaw12_IrWalks_2 at h
  refine U_seq ?_
  refine U_reg ?_
  simp only [SQ, ty58, sOpd, n1, n2, n3, n4, n5, n6]
  refine N_box s0 rfl fun d1 H1 s1 => ?_
  simp only [SQ, ty58, n1, n2, n3, n4, n5, n6]
  refine N_box s1 rfl fun d2 H2 s2 => ?_
  simp only [SQ, n1, n2, n3, n4, n5, n6]
  refine hold_intro ?_
  refine U_seq ?_
  refine U_reg ?_
  simp only [SQ, ty58, ty3, s2.b 1 rfl, sOpd, fk58, s2.b 0 rfl, n1, n2, n3, n4, n5, n6]
  refine N_put 0 s2 rfl fun H3 s3 => ?_
  simp only [SQ, n1, n2, n3, n4, n5, n6]
  refine hold_intro ?_
  refine U_ret ?_
  replace h := Option.some.inj h
  subst h
  refine ⟨.agg [.int .i64 o_1.kind, .int .i64 o_1.cls, .int .i64 o_1.tag, .int .i64 o_1.n], by simp only [ires, iress, Try.results39, SQ, List.toList_toArray, s3.b 0 rfl, ty58, n1, n2, n3, n4, n5, n6], ?_⟩
  exact Fz_agg (.cons (.cl (closed_int _ _)) (.cons (.cl (closed_int _ _)) (.cons (.cl (closed_int _ _)) (.cons (.cl (closed_int _ _)) (.nil)))))

theorem w_ir_turned_at_dyehouselaw12_IrWalks_2 {fuel : Nat} {l_1 : List Opd} {r0_ : List Opd} (h : p_ir_turned_at_dyehouselaw12_IrWalks_2 fuel l_1 = some r0_) : Pure1 Try.prog 104 [.sim (l_1.map eOpd) false, .fn (.func 39) [] []] (.sim (r0_.map eOpd) false) := by
  refine Pure1_S (all_cl (cl_map cl_eOpd l_1) (all_cl (closed_fn _) all_cl0)) fun F H s0 => ?_
  refine U_call 0 Try.func104 rfl (by kernel_rfl) (by simp [Try.ntmps104]) ?_
  rw [Try.ntmps104]
  refine U_fr 26 [(0, .sim (l_1.map eOpd) false), (1, .fn (.func 39) [] [])] rfl rfl rfl ?_
  unfold p_ir_turned_at_dyehouselaw12_IrWalks_2 at h
  refine U_seq ?_
  refine U_reg ?_
  simp only [SQ, n1, n2, n3, n4, n5, n6]
  refine hold_intro ?_
  refine U_seq ?_
  obtain ⟨l1, kl1, h⟩ := bndO h
  refine U_reg ?_
  simp only [SQ, len_sim ty23 rfl, ty23, ty58, imk_some (d := 10) (f := eOpd) ty23 rfl ty58 rfl rfl (by decide) kl1, n1, n2, n3, n4, n5, n6]
  refine N_sl l1 R58i s0 rfl rfl (by first | rfl | simp only [SQ]) (by first | rfl | simp only [List.length_map, List.length_replicate]) (zip_flat rfl) ?_
  intro v1 H1 s1
  simp only [SQ, n1, n2, n3, n4, n5, n6]
  refine hold_intro ?_
  refine U_seq ?_
  refine U_seq ?_
  refine U_reg ?_
  simp only [SQ, len_sim ty23 rfl, n1, n2, n3, n4, n5, n6]
  refine hold_intro ?_
  refine U_fr 26 [(1, .fn (.func 39) [] []), (5, v1), (11, .sim (l_1.map eOpd) false), (12, .int .i64 (l_1.length : Int)), (13, .int .i64 0)] rfl rfl rfl ?_
  obtain ⟨u1, he1, h⟩ := bndE h
  refine U_cut (fun a' H' => ∃ x_1 : Int, ∃ out_1 : List Opd, u1 = .n (x_1, out_1) ∧ Fi a' 26 [(1, .fn (.func 39) [] []), (5, v1)] ∧ HS F [sl R58i v1 out_1] H') (U_block (U_loop (fun z_ a' H' => match z_ with | (m1, x_1, out_1) => loopE m1 (fun s => p_ir_turned_at_dyehouselaw12_IrWalks_2_b1 fuel l_1 s.1 s.2) (x_1, out_1) = some u1 ∧ Fi a' 26 [(1, .fn (.func 39) [] []), (5, v1), (11, .sim (l_1.map eOpd) false), (12, .int .i64 (l_1.length : Int)), (13, .int .i64 x_1)] ∧ HS F [sl R58i v1 out_1] H' : (Nat × Int × (List Opd)) → Fr → Heap → Prop) (fun z_ : Nat × Int × (List Opd) => z_.1) (fuel, 0, l1) ?_ ?_)) ?_
  · exact ⟨he1, ⟨rfl, rfl, rfl⟩, s1⟩
  ·
    rintro ⟨m1, x_1, out_1⟩ a1 H2 ⟨hf1, f1, s2⟩
    refine U_fi f1 ?_
    obtain ⟨m1', m1_lt, u2, hr1, hl2⟩ := loopE_step hf1
    replace hr1 : p_ir_turned_at_dyehouselaw12_IrWalks_2_b1 fuel l_1 x_1 out_1 = some u2 := hr1
    unfold p_ir_turned_at_dyehouselaw12_IrWalks_2_b1 at hr1
    refine U_seq ?_
    refine U_reg ?_
    simp only [SQ, n1, n2, n3, n4, n5, n6]
    refine hold_intro ?_
    refine U_seq ?_
    rcases Bool.eq_false_or_eq_true (decide (x_1 < (l_1.length : Int))) with hb1 | hb1
    ·
      rw [if_pos hb1] at hr1
      refine U_condT (by simp only [SQ, hb1, n1, n2, n3, n4, n5, n6]) ?_
      refine U_skip ?_
      refine U_seq ?_
      refine U_block ?_
      refine U_seq ?_
      obtain ⟨x1, kx1, hr1⟩ := bndO hr1
      refine U_reg ?_
      simp only [SQ, ty23, ty58, iia_sim (f := eOpd) ty23 rfl ty58 kx1 rfl, row_sim (f := eOpd) kx1, sOpd, hb1, n1, n2, n3, n4, n5, n6]
      refine N_box s2 rfl fun d1 H3 s3 => ?_
      simp only [SQ, ty58, sOpd, splice_all', s3.b 0 rfl, hb1, n1, n2, n3, n4, n5, n6]
      refine N_put 0 s3 rfl fun H4 s4 => ?_
      simp only [SQ, hb1, n1, n2, n3, n4, n5, n6]
      refine hold_intro ?_
      refine U_fr 26 [(1, .fn (.func 39) [] []), (5, v1), (6, .int .i64 x_1), (7, .pb d1 0 0), (11, .sim (l_1.map eOpd) false), (12, .int .i64 (l_1.length : Int)), (13, .int .i64 x_1)] rfl rfl rfl ?_
      obtain ⟨r1, kr1, hr1⟩ := bndO hr1
      obtain ⟨x2, kx2, hr1⟩ := bndO hr1
      obtain ⟨l2, kl2, hr1⟩ := bndO hr1
      refine U_reg ?_
      simp only [SQ, ty58, s4.b 0 rfl, sOpd, hb1, n1, n2, n3, n4, n5, n6]
      refine callP (w_dyehouselaw12_IrWalks_2 kr1) ?_
      obtain ⟨w1_i, w1_r, w1_a, w1_1⟩ := s4.at (P := Try.prog) (k := .i64) 1 rfl ty23 rfl ty58 rfl kx2
      simp only [SQ, ty23, ty58, w1_1, hb1, n1, n2, n3, n4, n5, n6]
      refine N_st (y := r1) 1 s4 rfl w1_a kx2 ty58 rfl (by first | rfl | simp only [SQ, sOpd, splice_all', hb1, n1, n2, n3, n4, n5, n6]) (by first | decide | simp only [SQ, sOpd, splice_all', hb1, n1, n2, n3, n4, n5, n6] <;> decide) (by simp only [SQ, sOpd, splice_all', hb1, n1, n2, n3, n4, n5, n6]) (by first | rfl | simp only [SQ, sOpd, splice_all', hb1, n1, n2, n3, n4, n5, n6] <;> rfl) kl2 fun H5 s5 => ?_
      simp only [SQ, hb1, n1, n2, n3, n4, n5, n6]
      refine hold_intro ?_
      refine U_reg ?_
      simp only [SQ, hb1, n1, n2, n3, n4, n5, n6]
      refine hold_intro ?_
      replace hr1 := Option.some.inj hr1
      subst hr1
      exact ⟨(m1', IntKind.wrap .i64 (x_1 + 1), l2), m1_lt, hl2, ⟨rfl, rfl, by first | rfl | simp only [SQ, hb1, n1, n2, n3, n4, n5, n6]⟩, s5.sel [1] (by decide)⟩
    ·
      rw [if_neg (by rw [hb1]; decide)] at hr1
      refine U_condF (by simp only [SQ, hb1, n1, n2, n3, n4, n5, n6]) ?_
      refine U_exit rfl ?_
      replace hr1 := Option.some.inj hr1
      subst hr1
      exact ⟨_, _, hl2, ⟨rfl, rfl, by first | rfl | simp only [SQ, hb1, n1, n2, n3, n4, n5, n6]⟩, s2⟩
  ·
    rintro a2 H6 ⟨x_2, out_2, rfl, f2, s6⟩
    replace h := outE_n h
    dsimp only at h
    refine U_fi f2 ?_
    refine U_seq ?_
    refine U_reg ?_
    simp only [SQ, n1, n2, n3, n4, n5, n6]
    refine hold_intro ?_
    refine U_ret ?_
    replace h := Option.some.inj h
    subst h
    refine ⟨v1, by simp only [ires, iress, Try.results104, SQ, List.toList_toArray, n1, n2, n3, n4, n5, n6], ?_⟩
    exact s6.fzS 0 rfl

theorem w_ir_MapInstr_at_dyehouselaw12_IrWalks_2 {fuel : Nat} {i_1 : Ins} {r0_ : Ins} (h : p_ir_MapInstr_at_dyehouselaw12_IrWalks_2 fuel i_1 = some r0_) : Pure1 Try.prog 43 [.agg (eIns i_1), .fn (.func 39) [] []] (.agg (eIns r0_)) := by
  refine Pure1_S (all_cl (cl_agg (cl_eIns _)) (all_cl (closed_fn _) all_cl0)) fun F H s0 => ?_
  refine U_call 0 Try.func43 rfl (by kernel_rfl) (by simp [Try.ntmps43]) ?_
  rw [Try.ntmps43]
  refine U_fr 19 [(0, .agg (eIns i_1)), (1, .fn (.func 39) [] [])] rfl rfl rfl ?_
  unfold p_ir_MapInstr_at_dyehouselaw12_IrWalks_2 at h
  refine U_seq ?_
  refine U_reg ?_
  simp only [SQ, ty66, sIns, n1, n2, n3, n4, n5, n6]
  refine N_box s0 rfl fun d1 H1 s1 => ?_
  simp only [SQ, ty66, n1, n2, n3, n4, n5, n6]
  refine N_box s1 rfl fun d2 H2 s2 => ?_
  simp only [SQ, n1, n2, n3, n4, n5, n6]
  refine hold_intro ?_
  refine U_seq ?_
  obtain ⟨r1, kr1, h⟩ := bndO h
  refine U_reg ?_
  simp only [SQ, ty66, s2.b 1 rfl, sIns, n1, n2, n3, n4, n5, n6]
  refine callP (w_ir_CopyInstr kr1) ?_
  simp only [SQ, ty66, n1, n2, n3, n4, n5, n6]
  refine N_box s2 rfl fun d3 H3 s3 => ?_
  simp only [SQ, ty66, sIns, splice_all', s3.b 0 rfl, n1, n2, n3, n4, n5, n6]
  refine N_put 0 s3 rfl fun H4 s4 => ?_
  simp only [SQ, n1, n2, n3, n4, n5, n6]
  refine hold_intro ?_
  refine U_seq ?_
  obtain ⟨r2, kr2, h⟩ := bndO h
  refine U_reg ?_
  simp only [SQ, ty66, ty58, s4.b 2 rfl, sIns, n1, n2, n3, n4, n5, n6]
  refine callP (w_dyehouselaw12_IrWalks_2 kr2) ?_
  simp only [SQ, ty66, ty58, sOpd, xOpd, sIns, s4.b 0 rfl, n1, n2, n3, n4, n5, n6]
  refine N_put 0 s4 rfl fun H5 s5 => ?_
  simp only [SQ, n1, n2, n3, n4, n5, n6]
  refine hold_intro ?_
  refine U_seq ?_
  obtain ⟨r3, kr3, h⟩ := bndO h
  refine U_reg ?_
  simp only [SQ, ty66, ty23, s5.b 2 rfl, sIns, n1, n2, n3, n4, n5, n6]
  refine callP (w_ir_turned_at_dyehouselaw12_IrWalks_2 kr3) ?_
  simp only [SQ, ty66, ty23, s5.b 0 rfl, n1, n2, n3, n4, n5, n6]
  refine N_put 0 s5 rfl fun H6 s6 => ?_
  simp only [SQ, n1, n2, n3, n4, n5, n6]
  refine hold_intro ?_
  refine U_seq ?_
  refine U_fr 19 [(1, .fn (.func 39) [] []), (4, .pb d2 0 0), (5, .pb d3 0 0)] rfl rfl rfl ?_
  refine U_reg ?_
  simp only [SQ, ty66, s6.b 0 rfl, s6.b 1 rfl, n1, n2, n3, n4, n5, n6]
  refine N_put 1 s6 rfl fun H7 s7 => ?_
  simp only [SQ, n1, n2, n3, n4, n5, n6]
  refine hold_intro ?_
  refine U_ret ?_
  replace h := Option.some.inj h
  subst h
  refine ⟨.agg [.int .i64 r1.op, .int .i64 r2.kind, .int .i64 r2.cls, .int .i64 r2.n, .int .i64 r2.tag, .sim (r3.map eOpd) false, .str r1.name, .int .i64 r1.off, .sim (r1.labels.map eStr) false, .sim (r1.cases.map eInt) false], by simp only [ires, iress, Try.results43, SQ, List.toList_toArray, s7.b 1 rfl, ty66, n1, n2, n3, n4, n5, n6], ?_⟩
  exact Fz_agg (.cons (.cl (closed_int _ _)) (.cons (.cl (closed_int _ _)) (.cons (.cl (closed_int _ _)) (.cons (.cl (closed_int _ _)) (.cons (.cl (closed_int _ _)) (.cons (.cl (cl_map cl_eOpd r3)) (.cons (.cl (closed_str _)) (.cons (.cl (closed_int _ _)) (.cons (.cl (cl_map cl_eStr r1.labels)) (.cons (.cl (cl_map cl_eInt r1.cases)) (.nil)))))))))))

theorem w_ir_Map_at_dyehouselaw12_IrWalks_2 {fuel : Nat} {f_1 : Fnc} {r0_ : Fnc} (h : p_ir_Map_at_dyehouselaw12_IrWalks_2 fuel f_1 = some r0_) : Pure1 Try.prog 37 [.agg (eFnc f_1), .fn (.func 39) [] []] (.agg (eFnc r0_)) := by
  refine Pure1_S (all_cl (cl_agg (cl_eFnc _)) (all_cl (closed_fn _) all_cl0)) fun F H s0 => ?_
  refine U_call 0 Try.func37 rfl (by kernel_rfl) (by simp [Try.ntmps37]) ?_
  rw [Try.ntmps37]
  refine U_fr 67 [(0, .agg (eFnc f_1)), (1, .fn (.func 39) [] [])] rfl rfl rfl ?_
  unfold p_ir_Map_at_dyehouselaw12_IrWalks_2 at h
  refine U_seq ?_
  refine U_reg ?_
  simp only [SQ, ty26, sFnc, n1, n2, n3, n4, n5, n6]
  refine N_box s0 rfl fun d1 H1 s1 => ?_
  simp only [SQ, ty26, n1, n2, n3, n4, n5, n6]
  refine N_box s1 rfl fun d2 H2 s2 => ?_
  simp only [SQ, n1, n2, n3, n4, n5, n6]
  refine hold_intro ?_
  refine U_seq ?_
  refine U_reg ?_
  simp only [SQ, ty26, s2.b 1 rfl, sFnc, n1, n2, n3, n4, n5, n6]
  refine N_box s2 rfl fun d3 H3 s3 => ?_
  simp only [SQ, ty26, sFnc, splice_all', s3.b 0 rfl, n1, n2, n3, n4, n5, n6]
  refine N_put 0 s3 rfl fun H4 s4 => ?_
  simp only [SQ, n1, n2, n3, n4, n5, n6]
  refine hold_intro ?_
  refine U_seq ?_
  obtain ⟨r1, kr1, h⟩ := bndO h
  refine U_reg ?_
  simp only [SQ, ty26, ty22, s4.b 2 rfl, sFnc, n1, n2, n3, n4, n5, n6]
  refine callP (w_slices_Clone_api_Reg_api_Reg kr1) ?_
  simp only [SQ, ty26, ty22, sFnc, s4.b 0 rfl, n1, n2, n3, n4, n5, n6]
  refine N_put 0 s4 rfl fun H5 s5 => ?_
  simp only [SQ, n1, n2, n3, n4, n5, n6]
  refine hold_intro ?_
  refine U_seq ?_
  obtain ⟨r2, kr2, h⟩ := bndO h
  refine U_reg ?_
  simp only [SQ, ty26, ty23, s5.b 2 rfl, sFnc, n1, n2, n3, n4, n5, n6]
  refine callP (w_ir_turned_at_dyehouselaw12_IrWalks_2 kr2) ?_
  simp only [SQ, ty26, ty23, s5.b 0 rfl, n1, n2, n3, n4, n5, n6]
  refine N_put 0 s5 rfl fun H6 s6 => ?_
  simp only [SQ, n1, n2, n3, n4, n5, n6]
  refine hold_intro ?_
  refine U_seq ?_
  refine U_fr 67 [(1, .fn (.func 39) [] []), (2, .pb d1 0 0), (4, .pb d2 0 0), (5, .pb d3 0 0)] rfl rfl rfl ?_
  obtain ⟨l1, kl1, h⟩ := bndO h
  refine U_reg ?_
  simp only [SQ, ty26, ty24, s6.b 2 rfl, sFnc, len_sim ty24 rfl, ty63, imk_zero (d := 24) ty24 rfl ty63 rfl rfl (by decide) kl1, n1, n2, n3, n4, n5, n6]
  refine N_lit s6 rfl fun d4 H7 s7 => ?_
  simp only [SQ, ty26, ty24, s7.b 1 rfl, n1, n2, n3, n4, n5, n6]
  refine N_put 1 s7 rfl fun H8 s8 => ?_
  simp only [SQ, n1, n2, n3, n4, n5, n6]
  refine hold_intro ?_
  refine U_fr 67 [(1, .fn (.func 39) [] []), (2, .pb d1 0 0), (4, .pb d2 0 0), (5, .pb d3 0 0)] rfl rfl rfl ?_
  refine U_rowsN (f := eBl) (fl := true) (hm := fun _ => rfl) (hc := cl_eBl) l1 0 s8 rfl rfl rfl (rowsN_mk kl1 (.s (.s (.x .n (.x .n .nil))))) fun H9 s9 => ?_
  refine U_seq ?_
  refine U_seq ?_
  refine U_reg ?_
  simp only [SQ, ty26, ty24, s9.b 3 rfl, sFnc, len_sim ty24 rfl, n1, n2, n3, n4, n5, n6]
  refine hold_intro ?_
  refine U_fr 67 [(1, .fn (.func 39) [] []), (4, .pb d2 0 0), (5, .pb d3 0 0), (27, .sim (f_1.blocks.map eBl) false), (28, .int .i64 (f_1.blocks.length : Int)), (29, .int .i64 0)] rfl rfl rfl ?_
  obtain ⟨u1, he1, h⟩ := bndE h
  refine U_cut (fun a' H' => ∃ x_1 : Int, ∃ c1 : List Bl, u1 = .n (x_1, c1) ∧ Fi a' 67 [(1, .fn (.func 39) [] []), (4, .pb d2 0 0), (5, .pb d3 0 0)] ∧ HS F [pt d2 ⟨5, [[.bool false, .str (⟨#[]⟩ : ByteArray), .nils, .nils, .nils]]⟩, pt d3 ⟨5, [[.bool f_1.machine, .str f_1.name, .sim (r1.map eRg) false, .sim (r2.map eOpd) false, .sb d4 0 l1.length true]]⟩, sl R63i (.sb d4 0 l1.length true) c1] H') (U_block (U_loop (fun z_ a' H' => match z_ with | (m1, x_1, c1) => loopE m1 (fun s => p_ir_Map_at_dyehouselaw12_IrWalks_2_b1 fuel f_1 s.1 s.2) (x_1, c1) = some u1 ∧ Fi a' 67 [(1, .fn (.func 39) [] []), (4, .pb d2 0 0), (5, .pb d3 0 0), (27, .sim (f_1.blocks.map eBl) false), (28, .int .i64 (f_1.blocks.length : Int)), (29, .int .i64 x_1)] ∧ HS F [pt d2 ⟨5, [[.bool false, .str (⟨#[]⟩ : ByteArray), .nils, .nils, .nils]]⟩, pt d3 ⟨5, [[.bool f_1.machine, .str f_1.name, .sim (r1.map eRg) false, .sim (r2.map eOpd) false, .sb d4 0 l1.length true]]⟩, sl R63i (.sb d4 0 l1.length true) c1] H' : (Nat × Int × (List Bl)) → Fr → Heap → Prop) (fun z_ : Nat × Int × (List Bl) => z_.1) (fuel, 0, l1) ?_ ?_)) ?_
  · exact ⟨he1, ⟨rfl, rfl, rfl⟩, s9.sel [2, 1, 0] (by decide)⟩
  ·
    rintro ⟨m1, x_1, c1⟩ a1 H10 ⟨hf1, f1, s10⟩
    refine U_fi f1 ?_
    obtain ⟨m1', m1_lt, u2, hr1, hl2⟩ := loopE_step hf1
    replace hr1 : p_ir_Map_at_dyehouselaw12_IrWalks_2_b1 fuel f_1 x_1 c1 = some u2 := hr1
    unfold p_ir_Map_at_dyehouselaw12_IrWalks_2_b1 at hr1
    refine U_seq ?_
    refine U_reg ?_
    simp only [SQ, n1, n2, n3, n4, n5, n6]
    refine hold_intro ?_
    refine U_seq ?_
    rcases Bool.eq_false_or_eq_true (decide (x_1 < (f_1.blocks.length : Int))) with hb1 | hb1
    ·
      rw [if_pos hb1] at hr1
      refine U_condT (by simp only [SQ, hb1, n1, n2, n3, n4, n5, n6]) ?_
      refine U_skip ?_
      refine U_seq ?_
      refine U_block ?_
      refine U_seq ?_
      obtain ⟨x1, kx1, hr1⟩ := bndO hr1
      refine U_reg ?_
      simp only [SQ, ty24, ty63, iia_sim (f := eBl) ty24 rfl ty63 kx1 rfl, row_sim (f := eBl) kx1, sBl, hb1, n1, n2, n3, n4, n5, n6]
      refine N_box s10 rfl fun d5 H11 s11 => ?_
      simp only [SQ, ty63, sBl, splice_all', s11.b 0 rfl, hb1, n1, n2, n3, n4, n5, n6]
      refine N_put 0 s11 rfl fun H12 s12 => ?_
      simp only [SQ, hb1, n1, n2, n3, n4, n5, n6]
      refine hold_intro ?_
      refine U_seq ?_
      refine U_fr 67 [(1, .fn (.func 39) [] []), (4, .pb d2 0 0), (5, .pb d3 0 0), (6, .int .i64 x_1), (7, .pb d5 0 0), (27, .sim (f_1.blocks.map eBl) false), (28, .int .i64 (f_1.blocks.length : Int)), (29, .int .i64 x_1)] rfl rfl rfl ?_
      obtain ⟨r3, kr3, hr1⟩ := bndO hr1
      refine U_reg ?_
      simp only [SQ, ty63, ty23, s12.b 0 rfl, sBl, hb1, n1, n2, n3, n4, n5, n6]
      refine callP (w_ir_turned_at_dyehouselaw12_IrWalks_2 kr3) ?_
      simp only [SQ, ty63, ty23, sBl, s12.b 0 rfl, hb1, n1, n2, n3, n4, n5, n6]
      refine N_put 0 s12 rfl fun H13 s13 => ?_
      simp only [SQ, hb1, n1, n2, n3, n4, n5, n6]
      refine hold_intro ?_
      refine U_seq ?_
      obtain ⟨l2, kl2, hr1⟩ := bndO hr1
      refine U_reg ?_
      simp only [SQ, ty63, ty61, s13.b 0 rfl, len_sim ty61 rfl, ty66, imk_zero (d := 42) ty61 rfl ty66 rfl rfl (by decide) kl2, hb1, n1, n2, n3, n4, n5, n6]
      refine N_lit s13 rfl fun d6 H14 s14 => ?_
      simp only [SQ, hb1, n1, n2, n3, n4, n5, n6]
      refine hold_intro ?_
      refine U_fr 67 [(1, .fn (.func 39) [] []), (4, .pb d2 0 0), (5, .pb d3 0 0), (6, .int .i64 x_1), (7, .pb d5 0 0), (8, .sb d6 0 l2.length true), (27, .sim (f_1.blocks.map eBl) false), (28, .int .i64 (f_1.blocks.length : Int)), (29, .int .i64 x_1)] rfl rfl rfl ?_
      refine U_rowsN (f := eIns) (fl := true) (hm := fun _ => rfl) (hc := cl_eIns) l2 0 s14 rfl rfl rfl (rowsN_mk kl2 (.s (.s (.s (.s (.s (.x .n (.s (.s (.x .n (.x .n .nil))))))))))) fun H15 s15 => ?_
      refine U_seq ?_
      refine U_seq ?_
      refine U_reg ?_
      simp only [SQ, ty63, ty61, s15.b 1 rfl, len_sim ty61 rfl, hb1, n1, n2, n3, n4, n5, n6]
      refine hold_intro ?_
      refine U_fr 67 [(1, .fn (.func 39) [] []), (4, .pb d2 0 0), (5, .pb d3 0 0), (6, .int .i64 x_1), (7, .pb d5 0 0), (8, .sb d6 0 l2.length true), (27, .sim (f_1.blocks.map eBl) false), (28, .int .i64 (f_1.blocks.length : Int)), (29, .int .i64 x_1), (44, .sim (x1.code.map eIns) false), (45, .int .i64 (x1.code.length : Int)), (46, .int .i64 0)] rfl rfl rfl ?_
      obtain ⟨u3, he2, hr1⟩ := bndE hr1
      refine U_cut (fun a' H' => ∃ x_3 : Int, ∃ code_1 : List Ins, u3 = .n (x_3, code_1) ∧ Fi a' 67 [(1, .fn (.func 39) [] []), (4, .pb d2 0 0), (5, .pb d3 0 0), (6, .int .i64 x_1), (7, .pb d5 0 0), (8, .sb d6 0 l2.length true), (27, .sim (f_1.blocks.map eBl) false), (28, .int .i64 (f_1.blocks.length : Int)), (29, .int .i64 x_1)] ∧ HS F [pt d2 ⟨5, [[.bool false, .str (⟨#[]⟩ : ByteArray), .nils, .nils, .nils]]⟩, pt d3 ⟨5, [[.bool f_1.machine, .str f_1.name, .sim (r1.map eRg) false, .sim (r2.map eOpd) false, .sb d4 0 l1.length true]]⟩, sl R63i (.sb d4 0 l1.length true) c1, pt d5 ⟨4, [[.str x1.label, .bool x1.edge, .sim (r3.map eOpd) false, .sim (x1.code.map eIns) false]]⟩, sl R66i (.sb d6 0 l2.length true) code_1] H') (U_block (U_loop (fun z_ a' H' => match z_ with | (m2, x_3, code_1) => loopE m2 (fun s => p_ir_Map_at_dyehouselaw12_IrWalks_2_b2 fuel x1 s.1 s.2) (x_3, code_1) = some u3 ∧ Fi a' 67 [(1, .fn (.func 39) [] []), (4, .pb d2 0 0), (5, .pb d3 0 0), (6, .int .i64 x_1), (7, .pb d5 0 0), (8, .sb d6 0 l2.length true), (27, .sim (f_1.blocks.map eBl) false), (28, .int .i64 (f_1.blocks.length : Int)), (29, .int .i64 x_1), (44, .sim (x1.code.map eIns) false), (45, .int .i64 (x1.code.length : Int)), (46, .int .i64 x_3)] ∧ HS F [pt d2 ⟨5, [[.bool false, .str (⟨#[]⟩ : ByteArray), .nils, .nils, .nils]]⟩, pt d3 ⟨5, [[.bool f_1.machine, .str f_1.name, .sim (r1.map eRg) false, .sim (r2.map eOpd) false, .sb d4 0 l1.length true]]⟩, sl R63i (.sb d4 0 l1.length true) c1, pt d5 ⟨4, [[.str x1.label, .bool x1.edge, .sim (r3.map eOpd) false, .sim (x1.code.map eIns) false]]⟩, sl R66i (.sb d6 0 l2.length true) code_1] H' : (Nat × Int × (List Ins)) → Fr → Heap → Prop) (fun z_ : Nat × Int × (List Ins) => z_.1) (fuel, 0, l2) ?_ ?_)) ?_
      · exact ⟨he2, ⟨rfl, rfl, by first | rfl | simp only [SQ, hb1, n1, n2, n3, n4, n5, n6]⟩, s15.sel [2, 3, 4, 1, 0] (by decide)⟩
      ·
        rintro ⟨m2, x_3, code_1⟩ a2 H16 ⟨hf2, f2, s16⟩
        refine U_fi f2 ?_
        obtain ⟨m2', m2_lt, u4, hr2, hl4⟩ := loopE_step hf2
        replace hr2 : p_ir_Map_at_dyehouselaw12_IrWalks_2_b2 fuel x1 x_3 code_1 = some u4 := hr2
        unfold p_ir_Map_at_dyehouselaw12_IrWalks_2_b2 at hr2
        refine U_seq ?_
        refine U_reg ?_
        simp only [SQ, hb1, n1, n2, n3, n4, n5, n6]
        refine hold_intro ?_
        refine U_seq ?_
        rcases Bool.eq_false_or_eq_true (decide (x_3 < (x1.code.length : Int))) with hb2 | hb2
        ·
          rw [if_pos hb2] at hr2
          refine U_condT (by simp only [SQ, hb1, hb2, n1, n2, n3, n4, n5, n6]) ?_
          refine U_skip ?_
          refine U_seq ?_
          refine U_block ?_
          refine U_seq ?_
          obtain ⟨x2, kx2, hr2⟩ := bndO hr2
          refine U_reg ?_
          simp only [SQ, ty61, ty66, iia_sim (f := eIns) ty61 rfl ty66 kx2 rfl, row_sim (f := eIns) kx2, sIns, hb1, hb2, n1, n2, n3, n4, n5, n6]
          refine N_box s16 rfl fun d7 H17 s17 => ?_
          simp only [SQ, ty66, sIns, splice_all', s17.b 0 rfl, hb1, hb2, n1, n2, n3, n4, n5, n6]
          refine N_put 0 s17 rfl fun H18 s18 => ?_
          simp only [SQ, hb1, hb2, n1, n2, n3, n4, n5, n6]
          refine hold_intro ?_
          obtain ⟨r4, kr4, hr2⟩ := bndO hr2
          obtain ⟨x3, kx3, hr2⟩ := bndO hr2
          obtain ⟨l3, kl3, hr2⟩ := bndO hr2
          refine U_reg ?_
          simp only [SQ, ty66, s18.b 0 rfl, sIns, hb1, hb2, n1, n2, n3, n4, n5, n6]
          refine callP (w_ir_MapInstr_at_dyehouselaw12_IrWalks_2 kr4) ?_
          obtain ⟨w1_i, w1_r, w1_a, w1_1⟩ := s18.at (P := Try.prog) (k := .i64) 5 rfl ty61 rfl ty66 rfl kx3
          simp only [SQ, ty61, ty66, w1_1, hb1, hb2, n1, n2, n3, n4, n5, n6]
          refine N_st (y := r4) 5 s18 rfl w1_a kx3 ty66 rfl (by first | rfl | simp only [SQ, sIns, splice_all', hb1, hb2, n1, n2, n3, n4, n5, n6]) (by first | decide | simp only [SQ, sIns, splice_all', hb1, hb2, n1, n2, n3, n4, n5, n6] <;> decide) (by simp only [SQ, sIns, splice_all', hb1, hb2, n1, n2, n3, n4, n5, n6]) (by first | rfl | simp only [SQ, sIns, splice_all', hb1, hb2, n1, n2, n3, n4, n5, n6] <;> rfl) kl3 fun H19 s19 => ?_
          simp only [SQ, hb1, hb2, n1, n2, n3, n4, n5, n6]
          refine hold_intro ?_
          refine U_fr 67 [(1, .fn (.func 39) [] []), (4, .pb d2 0 0), (5, .pb d3 0 0), (6, .int .i64 x_1), (7, .pb d5 0 0), (8, .sb d6 0 l2.length true), (27, .sim (f_1.blocks.map eBl) false), (28, .int .i64 (f_1.blocks.length : Int)), (29, .int .i64 x_1), (44, .sim (x1.code.map eIns) false), (45, .int .i64 (x1.code.length : Int)), (46, .int .i64 x_3)] rfl rfl rfl ?_
          refine U_reg ?_
          simp only [SQ, hb1, hb2, n1, n2, n3, n4, n5, n6]
          refine hold_intro ?_
          replace hr2 := Option.some.inj hr2
          subst hr2
          exact ⟨(m2', IntKind.wrap .i64 (x_3 + 1), l3), m2_lt, hl4, ⟨rfl, rfl, by first | rfl | simp only [SQ, hb1, hb2, n1, n2, n3, n4, n5, n6]⟩, s19.sel [1, 2, 3, 4, 5] (by decide)⟩
        ·
          rw [if_neg (by rw [hb2]; decide)] at hr2
          refine U_condF (by simp only [SQ, hb1, hb2, n1, n2, n3, n4, n5, n6]) ?_
          refine U_exit rfl ?_
          replace hr2 := Option.some.inj hr2
          subst hr2
          exact ⟨_, _, hl4, ⟨rfl, rfl, by first | rfl | simp only [SQ, hb1, hb2, n1, n2, n3, n4, n5, n6]⟩, s16⟩
      ·
        rintro a3 H20 ⟨x_4, code_2, rfl, f3, s20⟩
        replace hr1 := outE_n hr1
        dsimp only at hr1
        refine U_fi f3 ?_
        refine U_seq ?_
        refine U_reg ?_
        simp only [SQ, ty63, ty61, s20.cf 4 rfl, s20.b 3 rfl, hb1, n1, n2, n3, n4, n5, n6]
        refine N_put 3 s20 rfl fun H21 s21 => ?_
        simp only [SQ, hb1, n1, n2, n3, n4, n5, n6]
        refine hold_intro ?_
        refine U_fr 67 [(1, .fn (.func 39) [] []), (4, .pb d2 0 0), (5, .pb d3 0 0), (6, .int .i64 x_1), (7, .pb d5 0 0), (27, .sim (f_1.blocks.map eBl) false), (28, .int .i64 (f_1.blocks.length : Int)), (29, .int .i64 x_1)] rfl rfl rfl ?_
        refine U_fzS (l' := [(1, .fn (.func 39) [] []), (4, .pb d2 0 0), (5, .pb d3 0 0), (6, .int .i64 x_1), (7, .pb d5 0 0), (27, .sim (f_1.blocks.map eBl) false), (28, .int .i64 (f_1.blocks.length : Int)), (29, .int .i64 x_1)]) (M := [pt d2 ⟨5, [[.bool false, .str (⟨#[]⟩ : ByteArray), .nils, .nils, .nils]]⟩, pt d3 ⟨5, [[.bool f_1.machine, .str f_1.name, .sim (r1.map eRg) false, .sim (r2.map eOpd) false, .sb d4 0 l1.length true]]⟩, sl R63i (.sb d4 0 l1.length true) c1, pt d5 ⟨4, [[.str x1.label, .bool x1.edge, .sim (r3.map eOpd) false, .sim (code_2.map eIns) false]]⟩]) 4 s21 rfl R66i_nl .id (.s (.s (.s (.r (.s (.s (.s (.x .o .id)))) .id)))) fun H22 s22 => ?_
        obtain ⟨x4, kx4, hr1⟩ := bndO hr1
        obtain ⟨l4, kl4, hr1⟩ := bndO hr1
        refine U_reg ?_
        obtain ⟨w2_i, w2_r, w2_a, w2_1⟩ := s22.at (P := Try.prog) (k := .i64) 2 rfl ty24 rfl ty63 rfl kx4
        simp only [SQ, ty26, ty24, s22.b 1 rfl, ty63, s22.b 3 rfl, w2_1, hb1, n1, n2, n3, n4, n5, n6]
        refine N_st (y := (⟨x1.label, x1.edge, r3, code_2⟩ : Bl)) 2 s22 rfl w2_a kx4 ty63 rfl (by first | rfl | simp only [SQ, sBl, hb1, n1, n2, n3, n4, n5, n6]) (by first | decide | simp only [SQ, sBl, hb1, n1, n2, n3, n4, n5, n6] <;> decide) (by simp only [SQ, sBl, hb1, n1, n2, n3, n4, n5, n6]) (by first | rfl | simp only [SQ, sBl, hb1, n1, n2, n3, n4, n5, n6] <;> rfl) kl4 fun H23 s23 => ?_
        simp only [SQ, hb1, n1, n2, n3, n4, n5, n6]
        refine hold_intro ?_
        refine U_reg ?_
        simp only [SQ, hb1, n1, n2, n3, n4, n5, n6]
        refine hold_intro ?_
        replace hr1 := Option.some.inj hr1
        subst hr1
        exact ⟨(m1', IntKind.wrap .i64 (x_1 + 1), l4), m1_lt, hl2, ⟨rfl, rfl, by first | rfl | simp only [SQ, hb1, n1, n2, n3, n4, n5, n6]⟩, s23.sel [0, 1, 2] (by decide)⟩
    ·
      rw [if_neg (by rw [hb1]; decide)] at hr1
      refine U_condF (by simp only [SQ, hb1, n1, n2, n3, n4, n5, n6]) ?_
      refine U_exit rfl ?_
      replace hr1 := Option.some.inj hr1
      subst hr1
      exact ⟨_, _, hl2, ⟨rfl, rfl, by first | rfl | simp only [SQ, hb1, n1, n2, n3, n4, n5, n6]⟩, s10⟩
  ·
    rintro a4 H24 ⟨x_2, c2, rfl, f4, s24⟩
    replace h := outE_n h
    dsimp only at h
    refine U_fi f4 ?_
    refine U_seq ?_
    refine U_reg ?_
    simp only [SQ, ty26, s24.b 1 rfl, s24.cf 2 rfl, s24.b 0 rfl, n1, n2, n3, n4, n5, n6]
    refine N_put 0 s24 rfl fun H25 s25 => ?_
    simp only [SQ, n1, n2, n3, n4, n5, n6]
    refine hold_intro ?_
    refine U_ret ?_
    replace h := Option.some.inj h
    subst h
    refine ⟨.agg [.bool f_1.machine, .str f_1.name, .sim (r1.map eRg) false, .sim (r2.map eOpd) false, .sb d4 0 l1.length true], by simp only [ires, iress, Try.results37, SQ, List.toList_toArray, s25.b 0 rfl, ty26, n1, n2, n3, n4, n5, n6], ?_⟩
    exact Fz_agg (.cons (.cl (closed_bool _)) (.cons (.cl (closed_str _)) (.cons (.cl (cl_map cl_eRg r1)) (.cons (.cl (cl_map cl_eOpd r2)) (.cons (s25.fzS 2 rfl) (.nil))))))

theorem w_dyehouseref12_same {fuel : Nat} {av_1 : List Opd} {b_1 : List Opd} {r0_ : Bool} (h : p_dyehouseref12_same fuel av_1 b_1 = some r0_) : Pure1 Try.prog 99 [.sim (av_1.map eOpd) false, .sim (b_1.map eOpd) false] (.bool r0_) := by
  refine Pure1_S (all_cl (cl_map cl_eOpd av_1) (all_cl (cl_map cl_eOpd b_1) all_cl0)) fun F H s0 => ?_
  refine U_call 0 Try.func99 rfl (by kernel_rfl) (by simp [Try.ntmps99]) ?_
  rw [Try.ntmps99]
  refine U_fr 26 [(0, .sim (av_1.map eOpd) false), (1, .sim (b_1.map eOpd) false)] rfl rfl rfl ?_
  unfold p_dyehouseref12_same at h
  refine U_seq ?_
  refine U_reg ?_
  simp only [SQ, n1, n2, n3, n4, n5, n6]
  refine hold_intro ?_
  refine U_seq ?_
  refine U_seq ?_
  refine U_reg ?_
  simp only [SQ, len_sim ty23 rfl, n1, n2, n3, n4, n5, n6]
  refine hold_intro ?_
  rcases Bool.eq_false_or_eq_true (decide ((av_1.length : Int) ≠ (b_1.length : Int))) with hb1 | hb1
  ·
    rw [if_pos hb1] at h
    refine U_condT (by simp only [SQ, hb1, n1, n2, n3, n4, n5, n6]) ?_
    refine U_seq ?_
    refine U_reg ?_
    simp only [SQ, hb1, n1, n2, n3, n4, n5, n6]
    refine hold_intro ?_
    refine U_ret ?_
    replace h := Option.some.inj h
    subst h
    refine ⟨.bool false, by simp only [ires, iress, Try.results99, SQ, List.toList_toArray, hb1, n1, n2, n3, n4, n5, n6], ?_⟩
    exact .cl (closed_bool _)
  ·
    rw [if_neg (by rw [hb1]; decide)] at h
    refine U_condF (by simp only [SQ, hb1, n1, n2, n3, n4, n5, n6]) ?_
    refine U_skip ?_
    refine U_seq ?_
    refine U_seq ?_
    refine U_reg ?_
    simp only [SQ, hb1, n1, n2, n3, n4, n5, n6]
    refine hold_intro ?_
    refine U_fr 26 [(0, .sim (av_1.map eOpd) false), (1, .sim (b_1.map eOpd) false), (5, .int .i64 0)] rfl rfl rfl ?_
    obtain ⟨u1, he1, h⟩ := bndE h
    obtain ⟨hhi1, hlo1, he1⟩ := toE_facts he1
    refine U_cut (fun a' H' => u1 = .n () ∧ Fi a' 26 [] ∧ HS F [] H') (U_block (U_loop (fun z_ a' H' => match z_ with | i1 => forE ((av_1.length : Int) - i1).toNat i1 (fun i _ => p_dyehouseref12_same_b1 fuel av_1 b_1 i) () = some u1 ∧ 0 ≤ i1 ∧ Fi a' 26 [(0, .sim (av_1.map eOpd) false), (1, .sim (b_1.map eOpd) false), (5, .int .i64 i1)] ∧ HS F [] H' : Int → Fr → Heap → Prop) (fun z_ : Int => ((av_1.length : Int) - z_).toNat) 0 ?_ ?_)) ?_
    · exact ⟨he1, Int.le_refl _, ⟨rfl, rfl, by first | rfl | simp only [SQ, hb1, n1, n2, n3, n4, n5, n6]⟩, s0⟩
    ·
      rintro i1 a1 H1 ⟨hf1, hl1, f1, s1⟩
      refine U_fi f1 ?_
      by_cases hlt1 : i1 < (av_1.length : Int)
      ·
        obtain ⟨u2, hr1, hl2⟩ := forE_step hf1 hlt1
        replace hr1 : p_dyehouseref12_same_b1 fuel av_1 b_1 i1 = some u2 := hr1
        unfold p_dyehouseref12_same_b1 at hr1
        have hw1 := wrap_next hlt1 hhi1 hlo1 hl1
        have hlt1_t : decide (i1 < (av_1.length : Int)) = true := decide_eq_true hlt1
        refine U_seq (U_seq ?_)
        refine U_reg ?_
        simp only [SQ, len_sim ty23 rfl, hb1, hw1, hlt1_t, n1, n2, n3, n4, n5, n6]
        refine hold_intro ?_
        refine U_condT (by simp only [SQ, hb1, hw1, hlt1_t, n1, n2, n3, n4, n5, n6]) (U_skip ?_)
        refine U_seq ?_
        refine U_block ?_
        refine U_seq ?_
        obtain ⟨x1, kx1, hr1⟩ := bndO hr1
        obtain ⟨x2, kx2, hr1⟩ := bndO hr1
        refine U_drawQ hm [0, 0, 3, 7, 0, 0, 48, 112, 255] false 8 (by decide +kernel) (by decide) ?_
        simp only [SQ, ty23, ty58, iia_sim (f := eOpd) ty23 rfl ty58 kx1 rfl, row_sim (f := eOpd) kx1, sOpd, iia_sim (f := eOpd) ty23 rfl ty58 kx2 rfl, row_sim (f := eOpd) kx2, qOpd, hb1, hw1, hlt1_t, n1, n2, n3, n4, n5, n6]
        refine hold_intro ?_
        rcases Bool.eq_false_or_eq_true ((!decide (x1 = x2))) with hb2 | hb2
        ·
          rw [if_pos hb2] at hr1
          refine U_condT (by simp only [SQ, hb1, hw1, hlt1_t, hb2, n1, n2, n3, n4, n5, n6]) ?_
          refine U_seq ?_
          refine U_fr 26 [] rfl rfl rfl ?_
          refine U_reg ?_
          simp only [SQ, hb1, hw1, hlt1_t, hb2, n1, n2, n3, n4, n5, n6]
          refine hold_intro ?_
          refine U_ret ?_
          replace hr1 := Option.some.inj hr1
          subst hr1
          replace hl2 : u1 = .r _ := hl2
          subst hl2
          replace h := outE_r h
          replace h := Option.some.inj h
          subst h
          refine ⟨.bool false, by simp only [ires, iress, Try.results99, SQ, List.toList_toArray, hb1, hw1, hlt1_t, hb2, n1, n2, n3, n4, n5, n6], ?_⟩
          exact .cl (closed_bool _)
        ·
          rw [if_neg (by rw [hb2]; decide)] at hr1
          refine U_condF (by simp only [SQ, hb1, hw1, hlt1_t, hb2, n1, n2, n3, n4, n5, n6]) ?_
          refine U_skip ?_
          refine U_reg ?_
          simp only [SQ, hb1, hw1, hlt1_t, hb2, n1, n2, n3, n4, n5, n6]
          refine hold_intro ?_
          replace hr1 := Option.some.inj hr1
          subst hr1
          refine ⟨i1 + 1, ?_, hl2, Int.le_add_one hl1, ⟨rfl, rfl, by first | rfl | simp only [SQ, hb1, hw1, hlt1_t, hb2, n1, n2, n3, n4, n5, n6]⟩, s1⟩
          show ((av_1.length : Int) - (i1 + 1)).toNat < ((av_1.length : Int) - i1).toNat; omega
      ·
        have hlt1_e := forE_end hf1 hlt1
        have hlt1_t : decide (i1 < (av_1.length : Int)) = false := decide_eq_false hlt1
        refine U_seq (U_seq ?_)
        refine U_reg ?_
        simp only [SQ, len_sim ty23 rfl, hb1, hlt1_t, n1, n2, n3, n4, n5, n6]
        refine hold_intro ?_
        refine U_condF (by simp only [SQ, hb1, hlt1_t, n1, n2, n3, n4, n5, n6]) (U_exit rfl ?_)
        exact ⟨hlt1_e, ⟨rfl, rfl, by first | rfl | simp only [SQ, hb1, hlt1_t, n1, n2, n3, n4, n5, n6]⟩, s1⟩
    ·
      rintro a2 H2 ⟨rfl, f2, s2⟩
      replace h := outE_n h
      refine U_fi f2 ?_
      refine U_seq ?_
      refine U_reg ?_
      simp only [SQ, hb1, n1, n2, n3, n4, n5, n6]
      refine hold_intro ?_
      refine U_ret ?_
      replace h := Option.some.inj h
      subst h
      refine ⟨.bool true, by simp only [ires, iress, Try.results99, SQ, List.toList_toArray, hb1, n1, n2, n3, n4, n5, n6], ?_⟩
      exact .cl (closed_bool _)

theorem w_dyehouseref12_Texts {fuel : Nat} {av_1 : List ByteArray} {b_1 : List ByteArray} {r0_ : Bool} (h : p_dyehouseref12_Texts fuel av_1 b_1 = some r0_) : Pure1 Try.prog 107 [.sim (av_1.map eStr) false, .sim (b_1.map eStr) false] (.bool r0_) := by
  refine Pure1_S (all_cl (cl_map cl_eStr av_1) (all_cl (cl_map cl_eStr b_1) all_cl0)) fun F H s0 => ?_
  refine U_call 0 Try.func107 rfl (by kernel_rfl) (by simp [Try.ntmps107]) ?_
  rw [Try.ntmps107]
  refine U_fr 26 [(0, .sim (av_1.map eStr) false), (1, .sim (b_1.map eStr) false)] rfl rfl rfl ?_
  unfold p_dyehouseref12_Texts at h
  refine U_seq ?_
  refine U_reg ?_
  simp only [SQ, n1, n2, n3, n4, n5, n6]
  refine hold_intro ?_
  refine U_seq ?_
  refine U_seq ?_
  refine U_reg ?_
  simp only [SQ, len_sim ty64 rfl, n1, n2, n3, n4, n5, n6]
  refine hold_intro ?_
  rcases Bool.eq_false_or_eq_true (decide ((av_1.length : Int) ≠ (b_1.length : Int))) with hb1 | hb1
  ·
    rw [if_pos hb1] at h
    refine U_condT (by simp only [SQ, hb1, n1, n2, n3, n4, n5, n6]) ?_
    refine U_seq ?_
    refine U_reg ?_
    simp only [SQ, hb1, n1, n2, n3, n4, n5, n6]
    refine hold_intro ?_
    refine U_ret ?_
    replace h := Option.some.inj h
    subst h
    refine ⟨.bool false, by simp only [ires, iress, Try.results107, SQ, List.toList_toArray, hb1, n1, n2, n3, n4, n5, n6], ?_⟩
    exact .cl (closed_bool _)
  ·
    rw [if_neg (by rw [hb1]; decide)] at h
    refine U_condF (by simp only [SQ, hb1, n1, n2, n3, n4, n5, n6]) ?_
    refine U_skip ?_
    refine U_seq ?_
    refine U_seq ?_
    refine U_reg ?_
    simp only [SQ, hb1, n1, n2, n3, n4, n5, n6]
    refine hold_intro ?_
    refine U_fr 26 [(0, .sim (av_1.map eStr) false), (1, .sim (b_1.map eStr) false), (5, .int .i64 0)] rfl rfl rfl ?_
    obtain ⟨u1, he1, h⟩ := bndE h
    obtain ⟨hhi1, hlo1, he1⟩ := toE_facts he1
    refine U_cut (fun a' H' => u1 = .n () ∧ Fi a' 26 [] ∧ HS F [] H') (U_block (U_loop (fun z_ a' H' => match z_ with | i1 => forE ((av_1.length : Int) - i1).toNat i1 (fun i _ => p_dyehouseref12_Texts_b1 fuel av_1 b_1 i) () = some u1 ∧ 0 ≤ i1 ∧ Fi a' 26 [(0, .sim (av_1.map eStr) false), (1, .sim (b_1.map eStr) false), (5, .int .i64 i1)] ∧ HS F [] H' : Int → Fr → Heap → Prop) (fun z_ : Int => ((av_1.length : Int) - z_).toNat) 0 ?_ ?_)) ?_
    · exact ⟨he1, Int.le_refl _, ⟨rfl, rfl, by first | rfl | simp only [SQ, hb1, n1, n2, n3, n4, n5, n6]⟩, s0⟩
    ·
      rintro i1 a1 H1 ⟨hf1, hl1, f1, s1⟩
      refine U_fi f1 ?_
      by_cases hlt1 : i1 < (av_1.length : Int)
      ·
        obtain ⟨u2, hr1, hl2⟩ := forE_step hf1 hlt1
        replace hr1 : p_dyehouseref12_Texts_b1 fuel av_1 b_1 i1 = some u2 := hr1
        unfold p_dyehouseref12_Texts_b1 at hr1
        have hw1 := wrap_next hlt1 hhi1 hlo1 hl1
        have hlt1_t : decide (i1 < (av_1.length : Int)) = true := decide_eq_true hlt1
        refine U_seq (U_seq ?_)
        refine U_reg ?_
        simp only [SQ, len_sim ty64 rfl, hb1, hw1, hlt1_t, n1, n2, n3, n4, n5, n6]
        refine hold_intro ?_
        refine U_condT (by simp only [SQ, hb1, hw1, hlt1_t, n1, n2, n3, n4, n5, n6]) (U_skip ?_)
        refine U_seq ?_
        refine U_block ?_
        refine U_seq ?_
        obtain ⟨x1, kx1, hr1⟩ := bndO hr1
        obtain ⟨x2, kx2, hr1⟩ := bndO hr1
        refine U_drawQ hm [0, 0, 3, 7, 0, 0, 48, 112, 255] false 8 (by decide +kernel) (by decide) ?_
        simp only [SQ, ty64, ty9, iia_sim (f := eStr) ty64 rfl ty9 kx1 rfl, row_sim (f := eStr) kx1, iia_sim (f := eStr) ty64 rfl ty9 kx2 rfl, row_sim (f := eStr) kx2, hb1, hw1, hlt1_t, n1, n2, n3, n4, n5, n6]
        refine hold_intro ?_
        rcases Bool.eq_false_or_eq_true (decide (x1 ≠ x2)) with hb2 | hb2
        ·
          rw [if_pos hb2] at hr1
          refine U_condT (by simp only [SQ, hb1, hw1, hlt1_t, hb2, n1, n2, n3, n4, n5, n6]) ?_
          refine U_seq ?_
          refine U_fr 26 [] rfl rfl rfl ?_
          refine U_reg ?_
          simp only [SQ, hb1, hw1, hlt1_t, hb2, n1, n2, n3, n4, n5, n6]
          refine hold_intro ?_
          refine U_ret ?_
          replace hr1 := Option.some.inj hr1
          subst hr1
          replace hl2 : u1 = .r _ := hl2
          subst hl2
          replace h := outE_r h
          replace h := Option.some.inj h
          subst h
          refine ⟨.bool false, by simp only [ires, iress, Try.results107, SQ, List.toList_toArray, hb1, hw1, hlt1_t, hb2, n1, n2, n3, n4, n5, n6], ?_⟩
          exact .cl (closed_bool _)
        ·
          rw [if_neg (by rw [hb2]; decide)] at hr1
          refine U_condF (by simp only [SQ, hb1, hw1, hlt1_t, hb2, n1, n2, n3, n4, n5, n6]) ?_
          refine U_skip ?_
          refine U_reg ?_
          simp only [SQ, hb1, hw1, hlt1_t, hb2, n1, n2, n3, n4, n5, n6]
          refine hold_intro ?_
          replace hr1 := Option.some.inj hr1
          subst hr1
          refine ⟨i1 + 1, ?_, hl2, Int.le_add_one hl1, ⟨rfl, rfl, by first | rfl | simp only [SQ, hb1, hw1, hlt1_t, hb2, n1, n2, n3, n4, n5, n6]⟩, s1⟩
          show ((av_1.length : Int) - (i1 + 1)).toNat < ((av_1.length : Int) - i1).toNat; omega
      ·
        have hlt1_e := forE_end hf1 hlt1
        have hlt1_t : decide (i1 < (av_1.length : Int)) = false := decide_eq_false hlt1
        refine U_seq (U_seq ?_)
        refine U_reg ?_
        simp only [SQ, len_sim ty64 rfl, hb1, hlt1_t, n1, n2, n3, n4, n5, n6]
        refine hold_intro ?_
        refine U_condF (by simp only [SQ, hb1, hlt1_t, n1, n2, n3, n4, n5, n6]) (U_exit rfl ?_)
        exact ⟨hlt1_e, ⟨rfl, rfl, by first | rfl | simp only [SQ, hb1, hlt1_t, n1, n2, n3, n4, n5, n6]⟩, s1⟩
    ·
      rintro a2 H2 ⟨rfl, f2, s2⟩
      replace h := outE_n h
      refine U_fi f2 ?_
      refine U_seq ?_
      refine U_reg ?_
      simp only [SQ, hb1, n1, n2, n3, n4, n5, n6]
      refine hold_intro ?_
      refine U_ret ?_
      replace h := Option.some.inj h
      subst h
      refine ⟨.bool true, by simp only [ires, iress, Try.results107, SQ, List.toList_toArray, hb1, n1, n2, n3, n4, n5, n6], ?_⟩
      exact .cl (closed_bool _)

theorem w_dyehouseref12_Ints {fuel : Nat} {av_1 : List Int} {b_1 : List Int} {r0_ : Bool} (h : p_dyehouseref12_Ints fuel av_1 b_1 = some r0_) : Pure1 Try.prog 19 [.sim (av_1.map eInt) false, .sim (b_1.map eInt) false] (.bool r0_) := by
  refine Pure1_S (all_cl (cl_map cl_eInt av_1) (all_cl (cl_map cl_eInt b_1) all_cl0)) fun F H s0 => ?_
  refine U_call 0 Try.func19 rfl (by kernel_rfl) (by simp [Try.ntmps19]) ?_
  rw [Try.ntmps19]
  refine U_fr 26 [(0, .sim (av_1.map eInt) false), (1, .sim (b_1.map eInt) false)] rfl rfl rfl ?_
  unfold p_dyehouseref12_Ints at h
  refine U_seq ?_
  refine U_reg ?_
  simp only [SQ, n1, n2, n3, n4, n5, n6]
  refine hold_intro ?_
  refine U_seq ?_
  refine U_seq ?_
  refine U_reg ?_
  simp only [SQ, len_sim ty37 rfl, n1, n2, n3, n4, n5, n6]
  refine hold_intro ?_
  rcases Bool.eq_false_or_eq_true (decide ((av_1.length : Int) ≠ (b_1.length : Int))) with hb1 | hb1
  ·
    rw [if_pos hb1] at h
    refine U_condT (by simp only [SQ, hb1, n1, n2, n3, n4, n5, n6]) ?_
    refine U_seq ?_
    refine U_reg ?_
    simp only [SQ, hb1, n1, n2, n3, n4, n5, n6]
    refine hold_intro ?_
    refine U_ret ?_
    replace h := Option.some.inj h
    subst h
    refine ⟨.bool false, by simp only [ires, iress, Try.results19, SQ, List.toList_toArray, hb1, n1, n2, n3, n4, n5, n6], ?_⟩
    exact .cl (closed_bool _)
  ·
    rw [if_neg (by rw [hb1]; decide)] at h
    refine U_condF (by simp only [SQ, hb1, n1, n2, n3, n4, n5, n6]) ?_
    refine U_skip ?_
    refine U_seq ?_
    refine U_seq ?_
    refine U_reg ?_
    simp only [SQ, hb1, n1, n2, n3, n4, n5, n6]
    refine hold_intro ?_
    refine U_fr 26 [(0, .sim (av_1.map eInt) false), (1, .sim (b_1.map eInt) false), (5, .int .i64 0)] rfl rfl rfl ?_
    obtain ⟨u1, he1, h⟩ := bndE h
    obtain ⟨hhi1, hlo1, he1⟩ := toE_facts he1
    refine U_cut (fun a' H' => u1 = .n () ∧ Fi a' 26 [] ∧ HS F [] H') (U_block (U_loop (fun z_ a' H' => match z_ with | i1 => forE ((av_1.length : Int) - i1).toNat i1 (fun i _ => p_dyehouseref12_Ints_b1 fuel av_1 b_1 i) () = some u1 ∧ 0 ≤ i1 ∧ Fi a' 26 [(0, .sim (av_1.map eInt) false), (1, .sim (b_1.map eInt) false), (5, .int .i64 i1)] ∧ HS F [] H' : Int → Fr → Heap → Prop) (fun z_ : Int => ((av_1.length : Int) - z_).toNat) 0 ?_ ?_)) ?_
    · exact ⟨he1, Int.le_refl _, ⟨rfl, rfl, by first | rfl | simp only [SQ, hb1, n1, n2, n3, n4, n5, n6]⟩, s0⟩
    ·
      rintro i1 a1 H1 ⟨hf1, hl1, f1, s1⟩
      refine U_fi f1 ?_
      by_cases hlt1 : i1 < (av_1.length : Int)
      ·
        obtain ⟨u2, hr1, hl2⟩ := forE_step hf1 hlt1
        replace hr1 : p_dyehouseref12_Ints_b1 fuel av_1 b_1 i1 = some u2 := hr1
        unfold p_dyehouseref12_Ints_b1 at hr1
        have hw1 := wrap_next hlt1 hhi1 hlo1 hl1
        have hlt1_t : decide (i1 < (av_1.length : Int)) = true := decide_eq_true hlt1
        refine U_seq (U_seq ?_)
        refine U_reg ?_
        simp only [SQ, len_sim ty37 rfl, hb1, hw1, hlt1_t, n1, n2, n3, n4, n5, n6]
        refine hold_intro ?_
        refine U_condT (by simp only [SQ, hb1, hw1, hlt1_t, n1, n2, n3, n4, n5, n6]) (U_skip ?_)
        refine U_seq ?_
        refine U_block ?_
        refine U_seq ?_
        obtain ⟨x1, kx1, hr1⟩ := bndO hr1
        obtain ⟨x2, kx2, hr1⟩ := bndO hr1
        refine U_drawQ hm [0, 0, 3, 7, 0, 0, 48, 112, 255] false 8 (by decide +kernel) (by decide) ?_
        simp only [SQ, ty37, ty3, iia_sim (f := eInt) ty37 rfl ty3 kx1 rfl, row_sim (f := eInt) kx1, iia_sim (f := eInt) ty37 rfl ty3 kx2 rfl, row_sim (f := eInt) kx2, hb1, hw1, hlt1_t, n1, n2, n3, n4, n5, n6]
        refine hold_intro ?_
        rcases Bool.eq_false_or_eq_true (decide (x1 ≠ x2)) with hb2 | hb2
        ·
          rw [if_pos hb2] at hr1
          refine U_condT (by simp only [SQ, hb1, hw1, hlt1_t, hb2, n1, n2, n3, n4, n5, n6]) ?_
          refine U_seq ?_
          refine U_fr 26 [] rfl rfl rfl ?_
          refine U_reg ?_
          simp only [SQ, hb1, hw1, hlt1_t, hb2, n1, n2, n3, n4, n5, n6]
          refine hold_intro ?_
          refine U_ret ?_
          replace hr1 := Option.some.inj hr1
          subst hr1
          replace hl2 : u1 = .r _ := hl2
          subst hl2
          replace h := outE_r h
          replace h := Option.some.inj h
          subst h
          refine ⟨.bool false, by simp only [ires, iress, Try.results19, SQ, List.toList_toArray, hb1, hw1, hlt1_t, hb2, n1, n2, n3, n4, n5, n6], ?_⟩
          exact .cl (closed_bool _)
        ·
          rw [if_neg (by rw [hb2]; decide)] at hr1
          refine U_condF (by simp only [SQ, hb1, hw1, hlt1_t, hb2, n1, n2, n3, n4, n5, n6]) ?_
          refine U_skip ?_
          refine U_reg ?_
          simp only [SQ, hb1, hw1, hlt1_t, hb2, n1, n2, n3, n4, n5, n6]
          refine hold_intro ?_
          replace hr1 := Option.some.inj hr1
          subst hr1
          refine ⟨i1 + 1, ?_, hl2, Int.le_add_one hl1, ⟨rfl, rfl, by first | rfl | simp only [SQ, hb1, hw1, hlt1_t, hb2, n1, n2, n3, n4, n5, n6]⟩, s1⟩
          show ((av_1.length : Int) - (i1 + 1)).toNat < ((av_1.length : Int) - i1).toNat; omega
      ·
        have hlt1_e := forE_end hf1 hlt1
        have hlt1_t : decide (i1 < (av_1.length : Int)) = false := decide_eq_false hlt1
        refine U_seq (U_seq ?_)
        refine U_reg ?_
        simp only [SQ, len_sim ty37 rfl, hb1, hlt1_t, n1, n2, n3, n4, n5, n6]
        refine hold_intro ?_
        refine U_condF (by simp only [SQ, hb1, hlt1_t, n1, n2, n3, n4, n5, n6]) (U_exit rfl ?_)
        exact ⟨hlt1_e, ⟨rfl, rfl, by first | rfl | simp only [SQ, hb1, hlt1_t, n1, n2, n3, n4, n5, n6]⟩, s1⟩
    ·
      rintro a2 H2 ⟨rfl, f2, s2⟩
      replace h := outE_n h
      refine U_fi f2 ?_
      refine U_seq ?_
      refine U_reg ?_
      simp only [SQ, hb1, n1, n2, n3, n4, n5, n6]
      refine hold_intro ?_
      refine U_ret ?_
      replace h := Option.some.inj h
      subst h
      refine ⟨.bool true, by simp only [ires, iress, Try.results19, SQ, List.toList_toArray, hb1, n1, n2, n3, n4, n5, n6], ?_⟩
      exact .cl (closed_bool _)

theorem w_dyehouseref12_Instr {fuel : Nat} {av_1 : Ins} {b_1 : Ins} {r0_ : Bool} (h : p_dyehouseref12_Instr fuel av_1 b_1 = some r0_) : Pure1 Try.prog 48 [.agg (eIns av_1), .agg (eIns b_1)] (.bool r0_) := by
  refine Pure1_S (all_cl (cl_agg (cl_eIns _)) (all_cl (cl_agg (cl_eIns _)) all_cl0)) fun F H s0 => ?_
  refine U_call 0 Try.func48 rfl (by kernel_rfl) (by simp [Try.ntmps48]) ?_
  rw [Try.ntmps48]
  refine U_fr 52 [(0, .agg (eIns av_1)), (1, .agg (eIns b_1))] rfl rfl rfl ?_
  unfold p_dyehouseref12_Instr at h
  refine U_seq ?_
  refine U_reg ?_
  simp only [SQ, ty66, sIns, n1, n2, n3, n4, n5, n6]
  refine N_box s0 rfl fun d1 H1 s1 => ?_
  simp only [SQ, ty66, sIns, n1, n2, n3, n4, n5, n6]
  refine N_box s1 rfl fun d2 H2 s2 => ?_
  simp only [SQ, n1, n2, n3, n4, n5, n6]
  refine hold_intro ?_
  refine U_seq ?_
  refine U_fr 52 [(2, .pb d1 0 0), (3, .pb d2 0 0), (4, .bool false)] rfl rfl rfl ?_
  obtain ⟨b1, kb1, h⟩ := bndO h
  obtain ⟨b2, kb2, h⟩ := bndO h
  obtain ⟨b3, kb3, h⟩ := bndO h
  refine U_cut (fun a' H' => Fi a' 52 [(4, .bool b3)] ∧ H2 = H') ?_ ?_
  · refine U_reg ?_
    rcases Bool.eq_false_or_eq_true (decide (av_1.op = b_1.op)) with hb1 | hb1
    ·
      rcases Bool.eq_false_or_eq_true (decide (av_1.dst = b_1.dst)) with hb2 | hb2
      ·
        have hx1 : ((decide (av_1.op = b_1.op)) && (decide (av_1.dst = b_1.dst))) = true := by simp only [SQ, hb1, hb2]
        rw [if_pos hx1] at kb1
        obtain ⟨r1, kr1, kb1⟩ := bndO kb1
        have hq1 := (Option.some.inj kb1).symm
        rcases Bool.eq_false_or_eq_true (r1) with hb3 | hb3
        ·
          rcases Bool.eq_false_or_eq_true (decide (av_1.name = b_1.name)) with hb4 | hb4
          ·
            rcases Bool.eq_false_or_eq_true (decide (av_1.off = b_1.off)) with hb5 | hb5
            ·
              have hx2 : ((b1 && (decide (av_1.name = b_1.name))) && (decide (av_1.off = b_1.off))) = true := by simp only [SQ, hb1, hb2, hq1, hb3, hb4, hb5]
              rw [if_pos hx2] at kb2
              obtain ⟨r2, kr2, kb2⟩ := bndO kb2
              have hq2 := (Option.some.inj kb2).symm
              rcases Bool.eq_false_or_eq_true (r2) with hb6 | hb6
              ·
                have hx3 : b2 = true := by simp only [SQ, hb1, hb2, hq1, hb3, hb4, hb5, hq2, hb6]
                rw [if_pos hx3] at kb3
                obtain ⟨r3, kr3, kb3⟩ := bndO kb3
                have hq3 := (Option.some.inj kb3).symm
                simp only [SQ, ty66, ty3, s2.b 1 rfl, sIns, s2.b 0 rfl, ty58, sOpd, qOpd, ty23, hb1, hb2, hq1, hb3, hb4, hb5, hq2, hb6, hq3, n1, n2, n3, n4, n5, n6]
                refine callP (w_dyehouseref12_same kr1) ?_
                simp only [SQ, ty66, ty9, s2.b 1 rfl, sIns, s2.b 0 rfl, ty3, ty64, hb1, hb2, hq1, hb3, hb4, hb5, hq2, hb6, hq3, n1, n2, n3, n4, n5, n6]
                refine callP (w_dyehouseref12_Texts kr2) ?_
                simp only [SQ, ty66, ty37, s2.b 1 rfl, sIns, s2.b 0 rfl, hb1, hb2, hq1, hb3, hb4, hb5, hq2, hb6, hq3, n1, n2, n3, n4, n5, n6]
                refine callP (w_dyehouseref12_Ints kr3) ?_
                simp only [SQ, hb1, hb2, hq1, hb3, hb4, hb5, hq2, hb6, hq3, n1, n2, n3, n4, n5, n6]
                refine hold_intro ?_
                exact ⟨⟨rfl, rfl, by first | rfl | simp only [SQ, hb1, hb2, hq1, hb3, hb4, hb5, hq2, hb6, hq3, n1, n2, n3, n4, n5, n6]⟩, rfl⟩
              ·
                have hx4 : b2 = false := by simp only [SQ, hb1, hb2, hq1, hb3, hb4, hb5, hq2, hb6]
                rw [if_neg (by rw [hx4]; decide)] at kb3
                have hq4 := (Option.some.inj kb3).symm
                simp only [SQ, ty66, ty3, s2.b 1 rfl, sIns, s2.b 0 rfl, ty58, sOpd, qOpd, ty23, hb1, hb2, hq1, hb3, hb4, hb5, hq2, hb6, hq4, n1, n2, n3, n4, n5, n6]
                refine callP (w_dyehouseref12_same kr1) ?_
                simp only [SQ, ty66, ty9, s2.b 1 rfl, sIns, s2.b 0 rfl, ty3, ty64, hb1, hb2, hq1, hb3, hb4, hb5, hq2, hb6, hq4, n1, n2, n3, n4, n5, n6]
                refine callP (w_dyehouseref12_Texts kr2) ?_
                simp only [SQ, hb1, hb2, hq1, hb3, hb4, hb5, hq2, hb6, hq4, n1, n2, n3, n4, n5, n6]
                refine hold_intro ?_
                exact ⟨⟨rfl, rfl, by first | rfl | simp only [SQ, hb1, hb2, hq1, hb3, hb4, hb5, hq2, hb6, hq4, n1, n2, n3, n4, n5, n6]⟩, rfl⟩
            ·
              have hx5 : ((b1 && (decide (av_1.name = b_1.name))) && (decide (av_1.off = b_1.off))) = false := by simp only [SQ, hb1, hb2, hq1, hb3, hb4, hb5]
              rw [if_neg (by rw [hx5]; decide)] at kb2
              have hq5 := (Option.some.inj kb2).symm
              have hx6 : b2 = false := by simp only [SQ, hb1, hb2, hq1, hb3, hb4, hb5, hq5]
              rw [if_neg (by rw [hx6]; decide)] at kb3
              have hq6 := (Option.some.inj kb3).symm
              simp only [SQ, ty66, ty3, s2.b 1 rfl, sIns, s2.b 0 rfl, ty58, sOpd, qOpd, ty23, hb1, hb2, hq1, hb3, hb4, hb5, hq5, hq6, n1, n2, n3, n4, n5, n6]
              refine callP (w_dyehouseref12_same kr1) ?_
              simp only [SQ, ty66, ty9, s2.b 1 rfl, sIns, s2.b 0 rfl, ty3, hb1, hb2, hq1, hb3, hb4, hb5, hq5, hq6, n1, n2, n3, n4, n5, n6]
              refine hold_intro ?_
              exact ⟨⟨rfl, rfl, by first | rfl | simp only [SQ, hb1, hb2, hq1, hb3, hb4, hb5, hq5, hq6, n1, n2, n3, n4, n5, n6]⟩, rfl⟩
          ·
            have hx7 : ((b1 && (decide (av_1.name = b_1.name))) && (decide (av_1.off = b_1.off))) = false := by simp only [SQ, hb1, hb2, hq1, hb3, hb4]
            rw [if_neg (by rw [hx7]; decide)] at kb2
            have hq7 := (Option.some.inj kb2).symm
            have hx8 : b2 = false := by simp only [SQ, hb1, hb2, hq1, hb3, hb4, hq7]
            rw [if_neg (by rw [hx8]; decide)] at kb3
            have hq8 := (Option.some.inj kb3).symm
            simp only [SQ, ty66, ty3, s2.b 1 rfl, sIns, s2.b 0 rfl, ty58, sOpd, qOpd, ty23, hb1, hb2, hq1, hb3, hb4, hq7, hq8, n1, n2, n3, n4, n5, n6]
            refine callP (w_dyehouseref12_same kr1) ?_
            simp only [SQ, ty66, ty9, s2.b 1 rfl, sIns, s2.b 0 rfl, hb1, hb2, hq1, hb3, hb4, hq7, hq8, n1, n2, n3, n4, n5, n6]
            refine hold_intro ?_
            exact ⟨⟨rfl, rfl, by first | rfl | simp only [SQ, hb1, hb2, hq1, hb3, hb4, hq7, hq8, n1, n2, n3, n4, n5, n6]⟩, rfl⟩
        ·
          have hx9 : ((b1 && (decide (av_1.name = b_1.name))) && (decide (av_1.off = b_1.off))) = false := by simp only [SQ, hb1, hb2, hq1, hb3]
          rw [if_neg (by rw [hx9]; decide)] at kb2
          have hq9 := (Option.some.inj kb2).symm
          have hx10 : b2 = false := by simp only [SQ, hb1, hb2, hq1, hb3, hq9]
          rw [if_neg (by rw [hx10]; decide)] at kb3
          have hq10 := (Option.some.inj kb3).symm
          simp only [SQ, ty66, ty3, s2.b 1 rfl, sIns, s2.b 0 rfl, ty58, sOpd, qOpd, ty23, hb1, hb2, hq1, hb3, hq9, hq10, n1, n2, n3, n4, n5, n6]
          refine callP (w_dyehouseref12_same kr1) ?_
          simp only [SQ, hb1, hb2, hq1, hb3, hq9, hq10, n1, n2, n3, n4, n5, n6]
          refine hold_intro ?_
          exact ⟨⟨rfl, rfl, by first | rfl | simp only [SQ, hb1, hb2, hq1, hb3, hq9, hq10, n1, n2, n3, n4, n5, n6]⟩, rfl⟩
      ·
        have hx11 : ((decide (av_1.op = b_1.op)) && (decide (av_1.dst = b_1.dst))) = false := by simp only [SQ, hb1, hb2]
        rw [if_neg (by rw [hx11]; decide)] at kb1
        have hq11 := (Option.some.inj kb1).symm
        have hx12 : ((b1 && (decide (av_1.name = b_1.name))) && (decide (av_1.off = b_1.off))) = false := by simp only [SQ, hb1, hb2, hq11]
        rw [if_neg (by rw [hx12]; decide)] at kb2
        have hq12 := (Option.some.inj kb2).symm
        have hx13 : b2 = false := by simp only [SQ, hb1, hb2, hq11, hq12]
        rw [if_neg (by rw [hx13]; decide)] at kb3
        have hq13 := (Option.some.inj kb3).symm
        simp only [SQ, ty66, ty3, s2.b 1 rfl, sIns, s2.b 0 rfl, ty58, sOpd, qOpd, hb1, hb2, hq11, hq12, hq13, n1, n2, n3, n4, n5, n6]
        refine hold_intro ?_
        exact ⟨⟨rfl, rfl, by first | rfl | simp only [SQ, hb1, hb2, hq11, hq12, hq13, n1, n2, n3, n4, n5, n6]⟩, rfl⟩
    ·
      have hx14 : ((decide (av_1.op = b_1.op)) && (decide (av_1.dst = b_1.dst))) = false := by simp only [SQ, hb1]
      rw [if_neg (by rw [hx14]; decide)] at kb1
      have hq14 := (Option.some.inj kb1).symm
      have hx15 : ((b1 && (decide (av_1.name = b_1.name))) && (decide (av_1.off = b_1.off))) = false := by simp only [SQ, hb1, hq14]
      rw [if_neg (by rw [hx15]; decide)] at kb2
      have hq15 := (Option.some.inj kb2).symm
      have hx16 : b2 = false := by simp only [SQ, hb1, hq14, hq15]
      rw [if_neg (by rw [hx16]; decide)] at kb3
      have hq16 := (Option.some.inj kb3).symm
      simp only [SQ, ty66, ty3, s2.b 1 rfl, sIns, s2.b 0 rfl, hb1, hq14, hq15, hq16, n1, n2, n3, n4, n5, n6]
      refine hold_intro ?_
      exact ⟨⟨rfl, rfl, by first | rfl | simp only [SQ, hb1, hq14, hq15, hq16, n1, n2, n3, n4, n5, n6]⟩, rfl⟩
  · rintro a1 _ ⟨f1, rfl⟩
    refine U_fi f1 ?_
    refine U_ret ?_
    replace h := Option.some.inj h
    subst h
    refine ⟨.bool b3, by simp only [ires, iress, Try.results48, SQ, List.toList_toArray, n1, n2, n3, n4, n5, n6], ?_⟩
    exact .cl (closed_bool _)

theorem w_dyehouseref12_Code {fuel : Nat} {av_1 : List Ins} {b_1 : List Ins} {r0_ : Bool} (h : p_dyehouseref12_Code fuel av_1 b_1 = some r0_) : Pure1 Try.prog 100 [.sim (av_1.map eIns) false, .sim (b_1.map eIns) false] (.bool r0_) := by
  refine Pure1_S (all_cl (cl_map cl_eIns av_1) (all_cl (cl_map cl_eIns b_1) all_cl0)) fun F H s0 => ?_
  refine U_call 0 Try.func100 rfl (by kernel_rfl) (by simp [Try.ntmps100]) ?_
  rw [Try.ntmps100]
  refine U_fr 27 [(0, .sim (av_1.map eIns) false), (1, .sim (b_1.map eIns) false)] rfl rfl rfl ?_
  unfold p_dyehouseref12_Code at h
  refine U_seq ?_
  refine U_reg ?_
  simp only [SQ, n1, n2, n3, n4, n5, n6]
  refine hold_intro ?_
  refine U_seq ?_
  refine U_seq ?_
  refine U_reg ?_
  simp only [SQ, len_sim ty61 rfl, n1, n2, n3, n4, n5, n6]
  refine hold_intro ?_
  rcases Bool.eq_false_or_eq_true (decide ((av_1.length : Int) ≠ (b_1.length : Int))) with hb1 | hb1
  ·
    rw [if_pos hb1] at h
    refine U_condT (by simp only [SQ, hb1, n1, n2, n3, n4, n5, n6]) ?_
    refine U_seq ?_
    refine U_reg ?_
    simp only [SQ, hb1, n1, n2, n3, n4, n5, n6]
    refine hold_intro ?_
    refine U_ret ?_
    replace h := Option.some.inj h
    subst h
    refine ⟨.bool false, by simp only [ires, iress, Try.results100, SQ, List.toList_toArray, hb1, n1, n2, n3, n4, n5, n6], ?_⟩
    exact .cl (closed_bool _)
  ·
    rw [if_neg (by rw [hb1]; decide)] at h
    refine U_condF (by simp only [SQ, hb1, n1, n2, n3, n4, n5, n6]) ?_
    refine U_skip ?_
    refine U_seq ?_
    refine U_seq ?_
    refine U_reg ?_
    simp only [SQ, hb1, n1, n2, n3, n4, n5, n6]
    refine hold_intro ?_
    refine U_fr 27 [(0, .sim (av_1.map eIns) false), (1, .sim (b_1.map eIns) false), (5, .int .i64 0)] rfl rfl rfl ?_
    obtain ⟨u1, he1, h⟩ := bndE h
    obtain ⟨hhi1, hlo1, he1⟩ := toE_facts he1
    refine U_cut (fun a' H' => u1 = .n () ∧ Fi a' 27 [] ∧ HS F [] H') (U_block (U_loop (fun z_ a' H' => match z_ with | i1 => forE ((av_1.length : Int) - i1).toNat i1 (fun i _ => p_dyehouseref12_Code_b1 fuel av_1 b_1 i) () = some u1 ∧ 0 ≤ i1 ∧ Fi a' 27 [(0, .sim (av_1.map eIns) false), (1, .sim (b_1.map eIns) false), (5, .int .i64 i1)] ∧ HS F [] H' : Int → Fr → Heap → Prop) (fun z_ : Int => ((av_1.length : Int) - z_).toNat) 0 ?_ ?_)) ?_
    · exact ⟨he1, Int.le_refl _, ⟨rfl, rfl, by first | rfl | simp only [SQ, hb1, n1, n2, n3, n4, n5, n6]⟩, s0⟩
    ·
      rintro i1 a1 H1 ⟨hf1, hl1, f1, s1⟩
      refine U_fi f1 ?_
      by_cases hlt1 : i1 < (av_1.length : Int)
      ·
        obtain ⟨u2, hr1, hl2⟩ := forE_step hf1 hlt1
        replace hr1 : p_dyehouseref12_Code_b1 fuel av_1 b_1 i1 = some u2 := hr1
        unfold p_dyehouseref12_Code_b1 at hr1
        have hw1 := wrap_next hlt1 hhi1 hlo1 hl1
        have hlt1_t : decide (i1 < (av_1.length : Int)) = true := decide_eq_true hlt1
        refine U_seq (U_seq ?_)
        refine U_reg ?_
        simp only [SQ, len_sim ty61 rfl, hb1, hw1, hlt1_t, n1, n2, n3, n4, n5, n6]
        refine hold_intro ?_
        refine U_condT (by simp only [SQ, hb1, hw1, hlt1_t, n1, n2, n3, n4, n5, n6]) (U_skip ?_)
        refine U_seq ?_
        refine U_block ?_
        refine U_seq ?_
        obtain ⟨x1, kx1, hr1⟩ := bndO hr1
        obtain ⟨x2, kx2, hr1⟩ := bndO hr1
        obtain ⟨r1, kr1, hr1⟩ := bndO hr1
        refine U_drawQ hm [0, 0, 3, 7, 0, 0, 48, 112, 255, 511] false 8 (by decide +kernel) (by decide) ?_
        simp only [SQ, ty61, ty66, iia_sim (f := eIns) ty61 rfl ty66 kx1 rfl, row_sim (f := eIns) kx1, sIns, iia_sim (f := eIns) ty61 rfl ty66 kx2 rfl, row_sim (f := eIns) kx2, hb1, hw1, hlt1_t, n1, n2, n3, n4, n5, n6]
        refine callP (w_dyehouseref12_Instr kr1) ?_
        simp only [SQ, hb1, hw1, hlt1_t, n1, n2, n3, n4, n5, n6]
        refine hold_intro ?_
        rcases Bool.eq_false_or_eq_true ((!r1)) with hb2 | hb2
        ·
          rw [if_pos hb2] at hr1
          refine U_condT (by simp only [SQ, hb1, hw1, hlt1_t, hb2, n1, n2, n3, n4, n5, n6]) ?_
          refine U_seq ?_
          refine U_fr 27 [] rfl rfl rfl ?_
          refine U_reg ?_
          simp only [SQ, hb1, hw1, hlt1_t, hb2, n1, n2, n3, n4, n5, n6]
          refine hold_intro ?_
          refine U_ret ?_
          replace hr1 := Option.some.inj hr1
          subst hr1
          replace hl2 : u1 = .r _ := hl2
          subst hl2
          replace h := outE_r h
          replace h := Option.some.inj h
          subst h
          refine ⟨.bool false, by simp only [ires, iress, Try.results100, SQ, List.toList_toArray, hb1, hw1, hlt1_t, hb2, n1, n2, n3, n4, n5, n6], ?_⟩
          exact .cl (closed_bool _)
        ·
          rw [if_neg (by rw [hb2]; decide)] at hr1
          refine U_condF (by simp only [SQ, hb1, hw1, hlt1_t, hb2, n1, n2, n3, n4, n5, n6]) ?_
          refine U_skip ?_
          refine U_reg ?_
          simp only [SQ, hb1, hw1, hlt1_t, hb2, n1, n2, n3, n4, n5, n6]
          refine hold_intro ?_
          replace hr1 := Option.some.inj hr1
          subst hr1
          refine ⟨i1 + 1, ?_, hl2, Int.le_add_one hl1, ⟨rfl, rfl, by first | rfl | simp only [SQ, hb1, hw1, hlt1_t, hb2, n1, n2, n3, n4, n5, n6]⟩, s1⟩
          show ((av_1.length : Int) - (i1 + 1)).toNat < ((av_1.length : Int) - i1).toNat; omega
      ·
        have hlt1_e := forE_end hf1 hlt1
        have hlt1_t : decide (i1 < (av_1.length : Int)) = false := decide_eq_false hlt1
        refine U_seq (U_seq ?_)
        refine U_reg ?_
        simp only [SQ, len_sim ty61 rfl, hb1, hlt1_t, n1, n2, n3, n4, n5, n6]
        refine hold_intro ?_
        refine U_condF (by simp only [SQ, hb1, hlt1_t, n1, n2, n3, n4, n5, n6]) (U_exit rfl ?_)
        exact ⟨hlt1_e, ⟨rfl, rfl, by first | rfl | simp only [SQ, hb1, hlt1_t, n1, n2, n3, n4, n5, n6]⟩, s1⟩
    ·
      rintro a2 H2 ⟨rfl, f2, s2⟩
      replace h := outE_n h
      refine U_fi f2 ?_
      refine U_seq ?_
      refine U_reg ?_
      simp only [SQ, hb1, n1, n2, n3, n4, n5, n6]
      refine hold_intro ?_
      refine U_ret ?_
      replace h := Option.some.inj h
      subst h
      refine ⟨.bool true, by simp only [ires, iress, Try.results100, SQ, List.toList_toArray, hb1, n1, n2, n3, n4, n5, n6], ?_⟩
      exact .cl (closed_bool _)

theorem w_dyehouseref12_Same {fuel : Nat} {av_1 : Fnc} {b_1 : Fnc} {r0_ : Bool} (h : p_dyehouseref12_Same fuel av_1 b_1 = some r0_) : Pure1 Try.prog 34 [.agg (eFnc av_1), .agg (eFnc b_1)] (.bool r0_) := by
  refine Pure1_S (all_cl (cl_agg (cl_eFnc _)) (all_cl (cl_agg (cl_eFnc _)) all_cl0)) fun F H s0 => ?_
  refine U_call 0 Try.func34 rfl (by kernel_rfl) (by simp [Try.ntmps34]) ?_
  rw [Try.ntmps34]
  refine U_fr 110 [(0, .agg (eFnc av_1)), (1, .agg (eFnc b_1))] rfl rfl rfl ?_
  unfold p_dyehouseref12_Same at h
  refine U_seq ?_
  refine U_reg ?_
  simp only [SQ, ty26, sFnc, n1, n2, n3, n4, n5, n6]
  refine N_box s0 rfl fun d1 H1 s1 => ?_
  simp only [SQ, ty26, sFnc, n1, n2, n3, n4, n5, n6]
  refine N_box s1 rfl fun d2 H2 s2 => ?_
  simp only [SQ, n1, n2, n3, n4, n5, n6]
  refine hold_intro ?_
  refine U_seq ?_
  refine U_seq ?_
  refine U_fr 110 [(2, .pb d1 0 0), (3, .pb d2 0 0)] rfl rfl rfl ?_
  obtain ⟨b1, kb1, h⟩ := bndO h
  refine U_cut (fun a' H' => Fi a' 110 [(2, .pb d1 0 0), (3, .pb d2 0 0), (46, .bool (b1 || (decide ((av_1.blocks.length : Int) ≠ (b_1.blocks.length : Int)))))] ∧ H2 = H') ?_ ?_
  · refine U_reg ?_
    rcases Bool.eq_false_or_eq_true ((av_1.machine != b_1.machine)) with hb1 | hb1
    ·
      have hx1 : (((av_1.machine != b_1.machine) || (decide (av_1.name ≠ b_1.name))) || (decide ((av_1.regs.length : Int) ≠ (b_1.regs.length : Int)))) = true := by simp only [SQ, hb1]
      rw [if_pos hx1] at kb1
      have hq1 := (Option.some.inj kb1).symm
      simp only [SQ, ty26, ty4, s2.b 1 rfl, sFnc, s2.b 0 rfl, bin_bool (P := Try.prog) ty4 rfl, hb1, hq1, n1, n2, n3, n4, n5, n6]
      refine hold_intro ?_
      exact ⟨⟨rfl, rfl, by first | rfl | simp only [SQ, hb1, hq1, n1, n2, n3, n4, n5, n6]⟩, rfl⟩
    ·
      rcases Bool.eq_false_or_eq_true (decide (av_1.name ≠ b_1.name)) with hb2 | hb2
      ·
        have hx2 : (((av_1.machine != b_1.machine) || (decide (av_1.name ≠ b_1.name))) || (decide ((av_1.regs.length : Int) ≠ (b_1.regs.length : Int)))) = true := by simp only [SQ, hb1, hb2]
        rw [if_pos hx2] at kb1
        have hq2 := (Option.some.inj kb1).symm
        simp only [SQ, ty26, ty4, s2.b 1 rfl, sFnc, s2.b 0 rfl, bin_bool (P := Try.prog) ty4 rfl, ty9, hb1, hb2, hq2, n1, n2, n3, n4, n5, n6]
        refine hold_intro ?_
        exact ⟨⟨rfl, rfl, by first | rfl | simp only [SQ, hb1, hb2, hq2, n1, n2, n3, n4, n5, n6]⟩, rfl⟩
      ·
        rcases Bool.eq_false_or_eq_true (decide ((av_1.regs.length : Int) ≠ (b_1.regs.length : Int))) with hb3 | hb3
        ·
          have hx3 : (((av_1.machine != b_1.machine) || (decide (av_1.name ≠ b_1.name))) || (decide ((av_1.regs.length : Int) ≠ (b_1.regs.length : Int)))) = true := by simp only [SQ, hb1, hb2, hb3]
          rw [if_pos hx3] at kb1
          have hq3 := (Option.some.inj kb1).symm
          simp only [SQ, ty26, ty4, s2.b 1 rfl, sFnc, s2.b 0 rfl, bin_bool (P := Try.prog) ty4 rfl, ty9, ty22, len_sim ty22 rfl, hb1, hb2, hb3, hq3, n1, n2, n3, n4, n5, n6]
          refine hold_intro ?_
          exact ⟨⟨rfl, rfl, by first | rfl | simp only [SQ, hb1, hb2, hb3, hq3, n1, n2, n3, n4, n5, n6]⟩, rfl⟩
        ·
          have hx4 : (((av_1.machine != b_1.machine) || (decide (av_1.name ≠ b_1.name))) || (decide ((av_1.regs.length : Int) ≠ (b_1.regs.length : Int)))) = false := by simp only [SQ, hb1, hb2, hb3]
          rw [if_neg (by rw [hx4]; decide)] at kb1
          obtain ⟨r1, kr1, kb1⟩ := bndO kb1
          have hq4 := (Option.some.inj kb1).symm
          rcases Bool.eq_false_or_eq_true ((!r1)) with hb4 | hb4
          ·
            simp only [SQ, ty26, ty4, s2.b 1 rfl, sFnc, s2.b 0 rfl, bin_bool (P := Try.prog) ty4 rfl, ty9, ty22, len_sim ty22 rfl, ty23, hb1, hb2, hb3, hq4, hb4, n1, n2, n3, n4, n5, n6]
            refine callP (w_dyehouseref12_same kr1) ?_
            simp only [SQ, hb1, hb2, hb3, hq4, hb4, n1, n2, n3, n4, n5, n6]
            refine hold_intro ?_
            exact ⟨⟨rfl, rfl, by first | rfl | simp only [SQ, hb1, hb2, hb3, hq4, hb4, n1, n2, n3, n4, n5, n6]⟩, rfl⟩
          ·
            simp only [SQ, ty26, ty4, s2.b 1 rfl, sFnc, s2.b 0 rfl, bin_bool (P := Try.prog) ty4 rfl, ty9, ty22, len_sim ty22 rfl, ty23, hb1, hb2, hb3, hq4, hb4, n1, n2, n3, n4, n5, n6]
            refine callP (w_dyehouseref12_same kr1) ?_
            simp only [SQ, ty26, ty24, s2.b 1 rfl, sFnc, len_sim ty24 rfl, s2.b 0 rfl, hb1, hb2, hb3, hq4, hb4, n1, n2, n3, n4, n5, n6]
            refine hold_intro ?_
            exact ⟨⟨rfl, rfl, by first | rfl | simp only [SQ, hb1, hb2, hb3, hq4, hb4, n1, n2, n3, n4, n5, n6]⟩, rfl⟩
  · rintro a1 _ ⟨f1, rfl⟩
    refine U_fi f1 ?_
    rcases Bool.eq_false_or_eq_true ((b1 || (decide ((av_1.blocks.length : Int) ≠ (b_1.blocks.length : Int))))) with hb5 | hb5
    ·
      rw [if_pos hb5] at h
      refine U_condT (by simp only [SQ, hb5, n1, n2, n3, n4, n5, n6]) ?_
      refine U_seq ?_
      refine U_fr 110 [] rfl rfl rfl ?_
      refine U_reg ?_
      simp only [SQ, hb5, n1, n2, n3, n4, n5, n6]
      refine hold_intro ?_
      refine U_ret ?_
      replace h := Option.some.inj h
      subst h
      refine ⟨.bool false, by simp only [ires, iress, Try.results34, SQ, List.toList_toArray, hb5, n1, n2, n3, n4, n5, n6], ?_⟩
      exact .cl (closed_bool _)
    ·
      rw [if_neg (by rw [hb5]; decide)] at h
      refine U_condF (by simp only [SQ, hb5, n1, n2, n3, n4, n5, n6]) ?_
      refine U_skip ?_
      refine U_seq ?_
      refine U_seq ?_
      refine U_reg ?_
      simp only [SQ, hb5, n1, n2, n3, n4, n5, n6]
      refine hold_intro ?_
      refine U_fr 110 [(2, .pb d1 0 0), (3, .pb d2 0 0), (5, .int .i64 0)] rfl rfl rfl ?_
      obtain ⟨u1, he1, h⟩ := bndE h
      obtain ⟨hhi1, hlo1, he1⟩ := toE_facts he1
      refine U_cut (fun a' H' => u1 = .n () ∧ Fi a' 110 [(2, .pb d1 0 0), (3, .pb d2 0 0)] ∧ HS F [pt d1 ⟨5, [eFnc av_1]⟩, pt d2 ⟨5, [eFnc b_1]⟩] H') (U_block (U_loop (fun z_ a' H' => match z_ with | i1 => forE ((av_1.regs.length : Int) - i1).toNat i1 (fun i _ => p_dyehouseref12_Same_b1 fuel av_1 b_1 i) () = some u1 ∧ 0 ≤ i1 ∧ Fi a' 110 [(2, .pb d1 0 0), (3, .pb d2 0 0), (5, .int .i64 i1)] ∧ HS F [pt d1 ⟨5, [eFnc av_1]⟩, pt d2 ⟨5, [eFnc b_1]⟩] H' : Int → Fr → Heap → Prop) (fun z_ : Int => ((av_1.regs.length : Int) - z_).toNat) 0 ?_ ?_)) ?_
      · exact ⟨he1, Int.le_refl _, ⟨rfl, rfl, by first | rfl | simp only [SQ, hb5, n1, n2, n3, n4, n5, n6]⟩, s2.sel [1, 0] (by decide)⟩
      ·
        rintro i1 a2 H4 ⟨hf1, hl1, f2, s4⟩
        refine U_fi f2 ?_
        by_cases hlt1 : i1 < (av_1.regs.length : Int)
        ·
          obtain ⟨u2, hr1, hl2⟩ := forE_step hf1 hlt1
          replace hr1 : p_dyehouseref12_Same_b1 fuel av_1 b_1 i1 = some u2 := hr1
          unfold p_dyehouseref12_Same_b1 at hr1
          have hw1 := wrap_next hlt1 hhi1 hlo1 hl1
          have hlt1_t : decide (i1 < (av_1.regs.length : Int)) = true := decide_eq_true hlt1
          refine U_seq (U_seq ?_)
          refine U_reg ?_
          simp only [SQ, ty26, ty22, s4.b 0 rfl, sFnc, len_sim ty22 rfl, hb5, hw1, hlt1_t, n1, n2, n3, n4, n5, n6]
          refine hold_intro ?_
          refine U_condT (by simp only [SQ, hb5, hw1, hlt1_t, n1, n2, n3, n4, n5, n6]) (U_skip ?_)
          refine U_seq ?_
          refine U_block ?_
          refine U_seq ?_
          obtain ⟨x1, kx1, hr1⟩ := bndO hr1
          obtain ⟨x2, kx2, hr1⟩ := bndO hr1
          refine U_drawQ hm [0, 1, 0, 7, 15, 0, 32, 0, 224, 480, 1023] false 10 (by decide +kernel) (by decide) ?_
          simp only [SQ, ty26, ty22, s4.b 0 rfl, sFnc, ty84, iia_sim (f := eRg) ty22 rfl ty84 kx1 rfl, row_sim (f := eRg) kx1, sRg, s4.b 1 rfl, iia_sim (f := eRg) ty22 rfl ty84 kx2 rfl, row_sim (f := eRg) kx2, qRg, hb5, hw1, hlt1_t, n1, n2, n3, n4, n5, n6]
          refine hold_intro ?_
          rcases Bool.eq_false_or_eq_true ((!decide (x1 = x2))) with hb6 | hb6
          ·
            rw [if_pos hb6] at hr1
            refine U_condT (by simp only [SQ, hb5, hw1, hlt1_t, hb6, n1, n2, n3, n4, n5, n6]) ?_
            refine U_seq ?_
            refine U_fr 110 [] rfl rfl rfl ?_
            refine U_reg ?_
            simp only [SQ, hb5, hw1, hlt1_t, hb6, n1, n2, n3, n4, n5, n6]
            refine hold_intro ?_
            refine U_ret ?_
            replace hr1 := Option.some.inj hr1
            subst hr1
            replace hl2 : u1 = .r _ := hl2
            subst hl2
            replace h := outE_r h
            replace h := Option.some.inj h
            subst h
            refine ⟨.bool false, by simp only [ires, iress, Try.results34, SQ, List.toList_toArray, hb5, hw1, hlt1_t, hb6, n1, n2, n3, n4, n5, n6], ?_⟩
            exact .cl (closed_bool _)
          ·
            rw [if_neg (by rw [hb6]; decide)] at hr1
            refine U_condF (by simp only [SQ, hb5, hw1, hlt1_t, hb6, n1, n2, n3, n4, n5, n6]) ?_
            refine U_skip ?_
            refine U_reg ?_
            simp only [SQ, hb5, hw1, hlt1_t, hb6, n1, n2, n3, n4, n5, n6]
            refine hold_intro ?_
            replace hr1 := Option.some.inj hr1
            subst hr1
            refine ⟨i1 + 1, ?_, hl2, Int.le_add_one hl1, ⟨rfl, rfl, by first | rfl | simp only [SQ, hb5, hw1, hlt1_t, hb6, n1, n2, n3, n4, n5, n6]⟩, s4⟩
            show ((av_1.regs.length : Int) - (i1 + 1)).toNat < ((av_1.regs.length : Int) - i1).toNat; omega
        ·
          have hlt1_e := forE_end hf1 hlt1
          have hlt1_t : decide (i1 < (av_1.regs.length : Int)) = false := decide_eq_false hlt1
          refine U_seq (U_seq ?_)
          refine U_reg ?_
          simp only [SQ, ty26, ty22, s4.b 0 rfl, sFnc, len_sim ty22 rfl, hb5, hlt1_t, n1, n2, n3, n4, n5, n6]
          refine hold_intro ?_
          refine U_condF (by simp only [SQ, hb5, hlt1_t, n1, n2, n3, n4, n5, n6]) (U_exit rfl ?_)
          exact ⟨hlt1_e, ⟨rfl, rfl, by first | rfl | simp only [SQ, hb5, hlt1_t, n1, n2, n3, n4, n5, n6]⟩, s4⟩
      ·
        rintro a3 H5 ⟨rfl, f3, s5⟩
        replace h := outE_n h
        refine U_fi f3 ?_
        refine U_seq ?_
        refine U_seq ?_
        refine U_reg ?_
        simp only [SQ, hb5, n1, n2, n3, n4, n5, n6]
        refine hold_intro ?_
        refine U_fr 110 [(2, .pb d1 0 0), (3, .pb d2 0 0), (6, .int .i64 0)] rfl rfl rfl ?_
        obtain ⟨u3, he2, h⟩ := bndE h
        obtain ⟨hhi2, hlo2, he2⟩ := toE_facts he2
        refine U_cut (fun a' H' => u3 = .n () ∧ Fi a' 110 [] ∧ HS F [pt d1 ⟨5, [eFnc av_1]⟩, pt d2 ⟨5, [eFnc b_1]⟩] H') (U_block (U_loop (fun z_ a' H' => match z_ with | i2 => forE ((av_1.blocks.length : Int) - i2).toNat i2 (fun i _ => p_dyehouseref12_Same_b2 fuel av_1 b_1 i) () = some u3 ∧ 0 ≤ i2 ∧ Fi a' 110 [(2, .pb d1 0 0), (3, .pb d2 0 0), (6, .int .i64 i2)] ∧ HS F [pt d1 ⟨5, [eFnc av_1]⟩, pt d2 ⟨5, [eFnc b_1]⟩] H' : Int → Fr → Heap → Prop) (fun z_ : Int => ((av_1.blocks.length : Int) - z_).toNat) 0 ?_ ?_)) ?_
        · exact ⟨he2, Int.le_refl _, ⟨rfl, rfl, by first | rfl | simp only [SQ, hb5, n1, n2, n3, n4, n5, n6]⟩, s5⟩
        ·
          rintro i2 a4 H6 ⟨hf2, hl3, f4, s6⟩
          refine U_fi f4 ?_
          by_cases hlt2 : i2 < (av_1.blocks.length : Int)
          ·
            obtain ⟨u4, hr2, hl4⟩ := forE_step hf2 hlt2
            replace hr2 : p_dyehouseref12_Same_b2 fuel av_1 b_1 i2 = some u4 := hr2
            unfold p_dyehouseref12_Same_b2 at hr2
            have hw2 := wrap_next hlt2 hhi2 hlo2 hl3
            have hlt2_t : decide (i2 < (av_1.blocks.length : Int)) = true := decide_eq_true hlt2
            refine U_seq (U_seq ?_)
            refine U_reg ?_
            simp only [SQ, ty26, ty24, s6.b 0 rfl, sFnc, len_sim ty24 rfl, hb5, hw2, hlt2_t, n1, n2, n3, n4, n5, n6]
            refine hold_intro ?_
            refine U_condT (by simp only [SQ, hb5, hw2, hlt2_t, n1, n2, n3, n4, n5, n6]) (U_skip ?_)
            refine U_seq ?_
            refine U_block ?_
            refine U_seq ?_
            obtain ⟨x3, kx3, hr2⟩ := bndO hr2
            obtain ⟨x4, kx4, hr2⟩ := bndO hr2
            refine U_drawQ hm [0, 1, 0, 7, 15, 0, 32, 0, 224, 480, 0, 0, 3103, 8191] true 13 (by decide +kernel) (by decide) ?_
            simp only [SQ, ty26, ty24, s6.b 0 rfl, sFnc, ty63, iia_sim (f := eBl) ty24 rfl ty63 kx3 rfl, row_sim (f := eBl) kx3, sBl, s6.b 1 rfl, iia_sim (f := eBl) ty24 rfl ty63 kx4 rfl, row_sim (f := eBl) kx4, hb5, hw2, hlt2_t, n1, n2, n3, n4, n5, n6]
            refine N_box s6 rfl fun d3 H7 s7 => ?_
            simp only [SQ, ty63, hb5, hw2, hlt2_t, n1, n2, n3, n4, n5, n6]
            refine N_box s7 rfl fun d4 H8 s8 => ?_
            simp only [SQ, ty63, sBl, splice_all', s8.b 1 rfl, hb5, hw2, hlt2_t, n1, n2, n3, n4, n5, n6]
            refine N_putS 1 s8 rfl (by simp only [SQ, s8.ne 0 1 rfl rfl (by decide), s8.ne 2 1 rfl rfl (by decide), s8.ne 3 1 rfl rfl (by decide), hb5, hw2, hlt2_t, n1, n2, n3, n4, n5, n6]) fun H9 s9 => ?_
            simp only [SQ, ty63, sBl, splice_all', s9.b 0 rfl, hb5, hw2, hlt2_t, n1, n2, n3, n4, n5, n6]
            refine N_put 0 s9 rfl fun H10 s10 => ?_
            simp only [SQ, hb5, hw2, hlt2_t, n1, n2, n3, n4, n5, n6]
            refine hold_intro ?_
            refine U_seq ?_
            refine U_fr 110 [(2, .pb d1 0 0), (3, .pb d2 0 0), (6, .int .i64 i2), (7, .pb d3 0 0), (8, .pb d4 0 0)] rfl rfl rfl ?_
            obtain ⟨b2, kb2, hr2⟩ := bndO hr2
            obtain ⟨b3, kb3, hr2⟩ := bndO hr2
            refine U_cut (fun a' H' => Fi a' 110 [(2, .pb d1 0 0), (3, .pb d2 0 0), (6, .int .i64 i2), (109, .bool b3)] ∧ H10 = H') ?_ ?_
            · refine U_reg ?_
              rcases Bool.eq_false_or_eq_true (decide (x3.label ≠ x4.label)) with hb7 | hb7
              ·
                have hx5 : ((decide (x3.label ≠ x4.label)) || (x3.edge != x4.edge)) = true := by simp only [SQ, hb7]
                rw [if_pos hx5] at kb2
                have hq5 := (Option.some.inj kb2).symm
                have hx6 : b2 = true := by simp only [SQ, hb7, hq5]
                rw [if_pos hx6] at kb3
                have hq6 := (Option.some.inj kb3).symm
                simp only [SQ, ty63, ty9, s10.b 1 rfl, sBl, s10.b 0 rfl, hb5, hw2, hlt2_t, hb7, hq5, hq6, n1, n2, n3, n4, n5, n6]
                refine hold_intro ?_
                exact ⟨⟨rfl, rfl, by first | rfl | simp only [SQ, hb5, hw2, hlt2_t, hb7, hq5, hq6, n1, n2, n3, n4, n5, n6]⟩, rfl⟩
              ·
                rcases Bool.eq_false_or_eq_true ((x3.edge != x4.edge)) with hb8 | hb8
                ·
                  have hx7 : ((decide (x3.label ≠ x4.label)) || (x3.edge != x4.edge)) = true := by simp only [SQ, hb7, hb8]
                  rw [if_pos hx7] at kb2
                  have hq7 := (Option.some.inj kb2).symm
                  have hx8 : b2 = true := by simp only [SQ, hb7, hb8, hq7]
                  rw [if_pos hx8] at kb3
                  have hq8 := (Option.some.inj kb3).symm
                  simp only [SQ, ty63, ty9, s10.b 1 rfl, sBl, s10.b 0 rfl, ty4, bin_bool (P := Try.prog) ty4 rfl, hb5, hw2, hlt2_t, hb7, hb8, hq7, hq8, n1, n2, n3, n4, n5, n6]
                  refine hold_intro ?_
                  exact ⟨⟨rfl, rfl, by first | rfl | simp only [SQ, hb5, hw2, hlt2_t, hb7, hb8, hq7, hq8, n1, n2, n3, n4, n5, n6]⟩, rfl⟩
                ·
                  have hx9 : ((decide (x3.label ≠ x4.label)) || (x3.edge != x4.edge)) = false := by simp only [SQ, hb7, hb8]
                  rw [if_neg (by rw [hx9]; decide)] at kb2
                  obtain ⟨r2, kr2, kb2⟩ := bndO kb2
                  have hq9 := (Option.some.inj kb2).symm
                  rcases Bool.eq_false_or_eq_true ((!r2)) with hb9 | hb9
                  ·
                    have hx10 : b2 = true := by simp only [SQ, hb7, hb8, hq9, hb9]
                    rw [if_pos hx10] at kb3
                    have hq10 := (Option.some.inj kb3).symm
                    simp only [SQ, ty63, ty9, s10.b 1 rfl, sBl, s10.b 0 rfl, ty4, bin_bool (P := Try.prog) ty4 rfl, ty23, hb5, hw2, hlt2_t, hb7, hb8, hq9, hb9, hq10, n1, n2, n3, n4, n5, n6]
                    refine callP (w_dyehouseref12_same kr2) ?_
                    simp only [SQ, hb5, hw2, hlt2_t, hb7, hb8, hq9, hb9, hq10, n1, n2, n3, n4, n5, n6]
                    refine hold_intro ?_
                    exact ⟨⟨rfl, rfl, by first | rfl | simp only [SQ, hb5, hw2, hlt2_t, hb7, hb8, hq9, hb9, hq10, n1, n2, n3, n4, n5, n6]⟩, rfl⟩
                  ·
                    have hx11 : b2 = false := by simp only [SQ, hb7, hb8, hq9, hb9]
                    rw [if_neg (by rw [hx11]; decide)] at kb3
                    obtain ⟨r3, kr3, kb3⟩ := bndO kb3
                    have hq11 := (Option.some.inj kb3).symm
                    simp only [SQ, ty63, ty9, s10.b 1 rfl, sBl, s10.b 0 rfl, ty4, bin_bool (P := Try.prog) ty4 rfl, ty23, hb5, hw2, hlt2_t, hb7, hb8, hq9, hb9, hq11, n1, n2, n3, n4, n5, n6]
                    refine callP (w_dyehouseref12_same kr2) ?_
                    simp only [SQ, ty63, ty61, s10.b 1 rfl, sBl, s10.b 0 rfl, hb5, hw2, hlt2_t, hb7, hb8, hq9, hb9, hq11, n1, n2, n3, n4, n5, n6]
                    refine callP (w_dyehouseref12_Code kr3) ?_
                    simp only [SQ, hb5, hw2, hlt2_t, hb7, hb8, hq9, hb9, hq11, n1, n2, n3, n4, n5, n6]
                    refine hold_intro ?_
                    exact ⟨⟨rfl, rfl, by first | rfl | simp only [SQ, hb5, hw2, hlt2_t, hb7, hb8, hq9, hb9, hq11, n1, n2, n3, n4, n5, n6]⟩, rfl⟩
            · rintro a5 _ ⟨f5, rfl⟩
              refine U_fi f5 ?_
              rcases Bool.eq_false_or_eq_true (b3) with hb10 | hb10
              ·
                rw [if_pos hb10] at hr2
                refine U_condT (by simp only [SQ, hb5, hw2, hlt2_t, hb10, n1, n2, n3, n4, n5, n6]) ?_
                refine U_seq ?_
                refine U_fr 110 [] rfl rfl rfl ?_
                refine U_reg ?_
                simp only [SQ, hb5, hw2, hlt2_t, hb10, n1, n2, n3, n4, n5, n6]
                refine hold_intro ?_
                refine U_ret ?_
                replace hr2 := Option.some.inj hr2
                subst hr2
                replace hl4 : u3 = .r _ := hl4
                subst hl4
                replace h := outE_r h
                replace h := Option.some.inj h
                subst h
                refine ⟨.bool false, by simp only [ires, iress, Try.results34, SQ, List.toList_toArray, hb5, hw2, hlt2_t, hb10, n1, n2, n3, n4, n5, n6], ?_⟩
                exact .cl (closed_bool _)
              ·
                rw [if_neg (by rw [hb10]; decide)] at hr2
                refine U_condF (by simp only [SQ, hb5, hw2, hlt2_t, hb10, n1, n2, n3, n4, n5, n6]) ?_
                refine U_skip ?_
                refine U_reg ?_
                simp only [SQ, hb5, hw2, hlt2_t, hb10, n1, n2, n3, n4, n5, n6]
                refine hold_intro ?_
                replace hr2 := Option.some.inj hr2
                subst hr2
                refine ⟨i2 + 1, ?_, hl4, Int.le_add_one hl3, ⟨rfl, rfl, by first | rfl | simp only [SQ, hb5, hw2, hlt2_t, hb10, n1, n2, n3, n4, n5, n6]⟩, s10.sel [2, 3] (by decide)⟩
                show ((av_1.blocks.length : Int) - (i2 + 1)).toNat < ((av_1.blocks.length : Int) - i2).toNat; omega
          ·
            have hlt2_e := forE_end hf2 hlt2
            have hlt2_t : decide (i2 < (av_1.blocks.length : Int)) = false := decide_eq_false hlt2
            refine U_seq (U_seq ?_)
            refine U_reg ?_
            simp only [SQ, ty26, ty24, s6.b 0 rfl, sFnc, len_sim ty24 rfl, hb5, hlt2_t, n1, n2, n3, n4, n5, n6]
            refine hold_intro ?_
            refine U_condF (by simp only [SQ, hb5, hlt2_t, n1, n2, n3, n4, n5, n6]) (U_exit rfl ?_)
            exact ⟨hlt2_e, ⟨rfl, rfl, by first | rfl | simp only [SQ, hb5, hlt2_t, n1, n2, n3, n4, n5, n6]⟩, s6⟩
        ·
          rintro a6 H12 ⟨rfl, f6, s12⟩
          replace h := outE_n h
          refine U_fi f6 ?_
          refine U_seq ?_
          refine U_reg ?_
          simp only [SQ, hb5, n1, n2, n3, n4, n5, n6]
          refine hold_intro ?_
          refine U_ret ?_
          replace h := Option.some.inj h
          subst h
          refine ⟨.bool true, by simp only [ires, iress, Try.results34, SQ, List.toList_toArray, hb5, n1, n2, n3, n4, n5, n6], ?_⟩
          exact .cl (closed_bool _)

theorem w_dyehouselaw12_IrWalks {fuel : Nat} {f_1 : Fnc} {most_1 : Int} {r0_ : Bool} (h : p_dyehouselaw12_IrWalks fuel f_1 most_1 = some r0_) : Pure1 Try.prog 7 [.agg (eFnc f_1), .int .i64 most_1] (.bool r0_) := by
  refine Pure1_S (all_cl (cl_agg (cl_eFnc _)) (all_cl (closed_int _ _) all_cl0)) fun F H s0 => ?_
  refine U_call 0 Try.func7 rfl (by kernel_rfl) (by simp [Try.ntmps7]) ?_
  rw [Try.ntmps7]
  refine U_fr 102 [(0, .agg (eFnc f_1)), (1, .int .i64 most_1)] rfl rfl rfl ?_
  unfold p_dyehouselaw12_IrWalks at h
  refine U_seq ?_
  refine U_reg ?_
  simp only [SQ, ty26, sFnc, n1, n2, n3, n4, n5, n6]
  refine N_box s0 rfl fun d1 H1 s1 => ?_
  simp only [SQ, ty3, n1, n2, n3, n4, n5, n6]
  refine N_box s1 rfl fun d2 H2 s2 => ?_
  simp only [SQ, ty4, n1, n2, n3, n4, n5, n6]
  refine N_box s2 rfl fun d3 H3 s3 => ?_
  simp only [SQ, n1, n2, n3, n4, n5, n6]
  refine hold_intro ?_
  refine U_seq ?_
  refine U_seq ?_
  obtain ⟨r1, kr1, h⟩ := bndO h
  refine U_reg ?_
  simp only [SQ, ty26, s3.b 2 rfl, sFnc, n1, n2, n3, n4, n5, n6]
  refine callP (w_dyehouseref12_Large kr1) ?_
  simp only [SQ, n1, n2, n3, n4, n5, n6]
  refine hold_intro ?_
  rcases Bool.eq_false_or_eq_true (r1) with hb1 | hb1
  ·
    rw [if_pos hb1] at h
    refine U_condT (by simp only [SQ, hb1, n1, n2, n3, n4, n5, n6]) ?_
    refine U_seq ?_
    obtain ⟨r2, kr2, h⟩ := bndO h
    refine U_reg ?_
    simp only [SQ, hb1, n1, n2, n3, n4, n5, n6]
    refine callP (w_dyehouselaw12_works kr2) ?_
    simp only [SQ, ty4, s3.b 0 rfl, hb1, n1, n2, n3, n4, n5, n6]
    refine N_put 0 s3 rfl fun H4 s4 => ?_
    simp only [SQ, hb1, n1, n2, n3, n4, n5, n6]
    refine hold_intro ?_
    refine U_ret ?_
    replace h := Option.some.inj h
    subst h
    refine ⟨.bool r2, by simp only [ires, iress, Try.results7, SQ, List.toList_toArray, s4.b 0 rfl, ty4, hb1, n1, n2, n3, n4, n5, n6], ?_⟩
    exact .cl (closed_bool _)
  ·
    rw [if_neg (by rw [hb1]; decide)] at h
    refine U_condF (by simp only [SQ, hb1, n1, n2, n3, n4, n5, n6]) ?_
    refine U_skip ?_
    refine U_seq ?_
    obtain ⟨r3, kr3, h⟩ := bndO h
    refine U_reg ?_
    simp only [SQ, ty26, s3.b 2 rfl, sFnc, hb1, n1, n2, n3, n4, n5, n6]
    refine callP (w_dyehouseref12_Operands kr3) ?_
    simp only [SQ, ty23, hb1, n1, n2, n3, n4, n5, n6]
    refine N_box s3 rfl fun d4 H5 s5 => ?_
    simp only [SQ, ty23, s5.b 0 rfl, hb1, n1, n2, n3, n4, n5, n6]
    refine N_put 0 s5 rfl fun H6 s6 => ?_
    simp only [SQ, hb1, n1, n2, n3, n4, n5, n6]
    refine hold_intro ?_
    refine U_seq ?_
    refine U_reg ?_
    simp only [SQ, ty3, hb1, n1, n2, n3, n4, n5, n6]
    refine N_box s6 rfl fun d5 H7 s7 => ?_
    simp only [SQ, ty3, s7.b 0 rfl, hb1, n1, n2, n3, n4, n5, n6]
    refine N_put 0 s7 rfl fun H8 s8 => ?_
    simp only [SQ, hb1, n1, n2, n3, n4, n5, n6]
    refine hold_intro ?_
    refine U_seq ?_
    refine U_fr 102 [(2, .pb d1 0 0), (3, .pb d2 0 0), (4, .pb d3 0 0), (5, .pb d4 0 0), (6, .pb d5 0 0)] rfl rfl rfl ?_
    obtain ⟨r4, kr4, h⟩ := bndO h
    refine U_reg ?_
    simp only [SQ, ty26, s8.b 4 rfl, sFnc, hb1, n1, n2, n3, n4, n5, n6]
    refine callP (w_ir_Operands kr4) ?_
    simp only [SQ, hb1, n1, n2, n3, n4, n5, n6]
    refine hold_intro ?_
    refine U_seq ?_
    refine U_seq ?_
    refine U_reg ?_
    simp only [SQ, ty70, fn_nil (P := Try.prog) ty70 rfl, hb1, n1, n2, n3, n4, n5, n6]
    refine hold_intro ?_
    refine U_condF rfl ?_
    refine U_skip ?_
    refine U_seq ?_
    refine U_fr 102 [(2, .pb d1 0 0), (3, .pb d2 0 0), (4, .pb d3 0 0), (5, .pb d4 0 0), (6, .pb d5 0 0), (7, .fn (.func 101) [] [.pim [eFnc r4] 0 0])] rfl rfl rfl ?_
    obtain ⟨u1, kj1, h⟩ := bndE h
    refine U_cut (fun a' H' => ∃ c1 : Int, u1 = .n c1 ∧ Fi a' 102 [(2, .pb d1 0 0), (3, .pb d2 0 0), (4, .pb d3 0 0), (5, .pb d4 0 0), (6, .pb d5 0 0)] ∧ HS F [pt d1 ⟨5, [eFnc f_1]⟩, pt d2 ⟨1, [[.int .i64 most_1]]⟩, pt d3 ⟨1, [[.bool false]]⟩, pt d4 ⟨1, [[.sim (r3.map eOpd) false]]⟩, pt d5 ⟨1, [[.int .i64 c1]]⟩] H') ?_ ?_
    ·
      refine U_seq ?_
      refine U_reg ?_
      simp only [SQ, hb1, n1, n2, n3, n4, n5, n6]
      refine hold_intro ?_
      refine U_block ?_
      refine U_fr 102 [(2, .pb d1 0 0), (3, .pb d2 0 0), (4, .pb d3 0 0), (5, .pb d4 0 0), (6, .pb d5 0 0), (23, .fn (.func 101) [] [.pim [eFnc r4] 0 0])] rfl rfl rfl ?_
      obtain ⟨xs1, kxs1, kj1⟩ := bndO kj1
      obtain ⟨u2, he1, kj1⟩ := bndX kj1
      refine U_rangeE (σ := Int) (L0 := []) (fun z_ : Int => match z_ with | c2 => [pt d1 ⟨5, [eFnc f_1]⟩, pt d2 ⟨1, [[.int .i64 most_1]]⟩, pt d3 ⟨1, [[.bool false]]⟩, pt d4 ⟨1, [[.sim (r3.map eOpd) false]]⟩, pt d5 ⟨1, [[.int .i64 c2]]⟩]) 0 (fun s x => p_dyehouselaw12_IrWalks_b1 fuel most_1 r3 x s) 0 rfl (it_ir_Operands_1 kxs1) (s8.sel [4, 3, 2, 1, 0] (by decide)) he1 (by decide) ?_ ?_ ?_ ?_
      ·
        rintro c2 o1 u3 hr1 F1 H10 s10
        replace hr1 : p_dyehouselaw12_IrWalks_b1 fuel most_1 r3 o1 c2 = some u3 := hr1
        unfold p_dyehouselaw12_IrWalks_b1 at hr1
        refine U_reg ?_
        simp only [SQ, ty58, hb1, n1, n2, n3, n4, n5, n6]
        refine N_box s10 rfl fun d6 H11 s11 => ?_
        simp only [SQ, ty58, sOpd, splice_all', s11.b 0 rfl, hb1, n1, n2, n3, n4, n5, n6]
        refine N_put 0 s11 rfl fun H12 s12 => ?_
        simp only [SQ, hb1, n1, n2, n3, n4, n5, n6]
        refine hold_intro ?_
        refine ⟨[(2, .pb d1 0 0), (3, .pb d2 0 0), (4, .pb d3 0 0), (5, .pb d4 0 0), (6, .pb d5 0 0), (8, .pb d6 0 0), (23, .fn (.func 101) [] [.pim [eFnc r4] 0 0]), (24, .agg (eOpd o1))], _, ⟨rfl, rfl, by first | rfl | simp only [SQ, hb1, n1, n2, n3, n4, n5, n6]⟩, s12, fun F2 H13 s13 => ?_⟩
        refine U_block ?_
        refine U_seq ?_
        refine U_seq ?_
        obtain ⟨b1, kb1, hr1⟩ := bndO hr1
        refine U_cut (fun a' H' => Fi a' 102 [(3, .pb d2 0 0), (4, .pb d3 0 0), (6, .pb d5 0 0), (36, .bool b1)] ∧ H13 = H') ?_ ?_
        · refine U_drawQ hm [0, 0, 2, 7, 15, 31, 31, 31, 223, 479, 1023, 2047] false 10 (by decide +kernel) (by decide) ?_
          rcases Bool.eq_false_or_eq_true (decide ((r3.length : Int) ≤ c2)) with hb2 | hb2
          ·
            have hx1 := hb2
            rw [if_pos hx1] at kb1
            have hq1 := (Option.some.inj kb1).symm
            simp only [SQ, ty3, s13.b 5 rfl, ty23, s13.b 4 rfl, len_sim ty23 rfl, hb1, hb2, hq1, n1, n2, n3, n4, n5, n6]
            refine hold_intro ?_
            exact ⟨⟨rfl, rfl, by first | rfl | simp only [SQ, hb1, hb2, hq1, n1, n2, n3, n4, n5, n6]⟩, rfl⟩
          ·
            have hx2 := hb2
            rw [if_neg (by rw [hx2]; decide)] at kb1
            obtain ⟨x1, kx1, kb1⟩ := bndO kb1
            have hq2 := (Option.some.inj kb1).symm
            simp only [SQ, ty3, s13.b 5 rfl, ty23, s13.b 4 rfl, len_sim ty23 rfl, ty58, s13.b 0 rfl, sOpd, iia_sim (f := eOpd) ty23 rfl ty58 kx1 rfl, row_sim (f := eOpd) kx1, qOpd, hb1, hb2, hq2, n1, n2, n3, n4, n5, n6]
            refine hold_intro ?_
            exact ⟨⟨rfl, rfl, by first | rfl | simp only [SQ, hb1, hb2, hq2, n1, n2, n3, n4, n5, n6]⟩, rfl⟩
        · rintro a2 _ ⟨f2, rfl⟩
          refine U_fi f2 ?_
          rcases Bool.eq_false_or_eq_true (b1) with hb3 | hb3
          ·
            rw [if_pos hb3] at hr1
            refine U_condT (by simp only [SQ, hb1, hb3, n1, n2, n3, n4, n5, n6]) ?_
            refine U_seq ?_
            refine U_reg ?_
            simp only [SQ, ty4, s13.b 3 rfl, hb1, hb3, n1, n2, n3, n4, n5, n6]
            refine N_put 3 s13 rfl fun H15 s15 => ?_
            simp only [SQ, hb1, hb3, n1, n2, n3, n4, n5, n6]
            refine hold_intro ?_
            refine U_ret ?_
            replace hr1 := Option.some.inj hr1
            subst hr1
            exact ⟨c2, rfl, s15.sel [1, 2, 3, 4, 5] (by decide)⟩
          ·
            rw [if_neg (by rw [hb3]; decide)] at hr1
            refine U_condF (by simp only [SQ, hb1, hb3, n1, n2, n3, n4, n5, n6]) ?_
            refine U_skip ?_
            refine U_seq ?_
            refine U_fr 102 [(3, .pb d2 0 0), (6, .pb d5 0 0)] rfl rfl rfl ?_
            refine U_reg ?_
            simp only [SQ, ty3, s13.b 5 rfl, hb1, hb3, n1, n2, n3, n4, n5, n6]
            refine N_put 5 s13 rfl fun H16 s16 => ?_
            simp only [SQ, hb1, hb3, n1, n2, n3, n4, n5, n6]
            refine hold_intro ?_
            refine U_seq ?_
            refine U_reg ?_
            simp only [SQ, ty3, s16.b 5 rfl, s16.b 2 rfl, hb1, hb3, n1, n2, n3, n4, n5, n6]
            refine hold_intro ?_
            rcases Bool.eq_false_or_eq_true (decide (most_1 ≤ (IntKind.wrap .i64 (c2 + 1)))) with hb4 | hb4
            ·
              rw [if_pos hb4] at hr1
              refine U_condT (by simp only [SQ, hb1, hb3, hb4, n1, n2, n3, n4, n5, n6]) ?_
              refine U_exit rfl ?_
              replace hr1 := Option.some.inj hr1
              subst hr1
              exact ⟨IntKind.wrap .i64 (c2 + 1), rfl, s16.sel [1, 2, 3, 4, 5] (by decide)⟩
            ·
              rw [if_neg (by rw [hb4]; decide)] at hr1
              refine U_condF (by simp only [SQ, hb1, hb3, hb4, n1, n2, n3, n4, n5, n6]) ?_
              refine U_skip ?_
              replace hr1 := Option.some.inj hr1
              subst hr1
              exact ⟨IntKind.wrap .i64 (c2 + 1), rfl, s16.sel [1, 2, 3, 4, 5] (by decide)⟩
      ·
        rintro c3 H17 rfl s17
        replace kj1 := outX_n kj1
        replace kj1 := Option.some.inj kj1
        subst kj1
        exact ⟨_, rfl, ⟨rfl, rfl, by first | rfl | simp only [SQ, hb1, n1, n2, n3, n4, n5, n6]⟩, s17⟩
      ·
        rintro c4 H18 rfl s18
        replace kj1 := outX_b kj1
        refine U_exit rfl ?_
        replace kj1 := Option.some.inj kj1
        subst kj1
        exact ⟨_, rfl, ⟨rfl, rfl, by first | rfl | simp only [SQ, hb1, n1, n2, n3, n4, n5, n6]⟩, s18⟩
      ·
        rintro c5 H19 rfl s19
        replace kj1 := outX_r kj1
        refine U_ret ?_
        replace kj1 := Option.some.inj kj1
        subst kj1
        replace h := outE_r h
        replace h := Option.some.inj h
        subst h
        refine ⟨.bool false, by simp only [ires, iress, Try.results7, SQ, List.toList_toArray, s19.b 2 rfl, ty4, hb1, n1, n2, n3, n4, n5, n6], ?_⟩
        exact .cl (closed_bool _)
    ·
      rintro a1 H9 ⟨c1, rfl, f1, s9⟩
      replace h := outE_n h
      refine U_fi f1 ?_
      refine U_seq ?_
      refine U_seq ?_
      refine U_cut (fun a' H' => Fi a' 102 [(2, .pb d1 0 0), (4, .pb d3 0 0), (5, .pb d4 0 0), (51, .bool ((decide (c1 ≠ (r3.length : Int))) && (decide (c1 ≠ (if 1 > most_1 then 1 else most_1)))))] ∧ H9 = H') ?_ ?_
      · refine U_reg ?_
        rcases Bool.eq_false_or_eq_true (decide (c1 ≠ (r3.length : Int))) with hb5 | hb5
        ·
          simp only [SQ, ty3, s9.b 4 rfl, ty23, s9.b 3 rfl, len_sim ty23 rfl, s9.b 1 rfl, hb1, hb5, n1, n2, n3, n4, n5, n6]
          refine hold_intro ?_
          exact ⟨⟨rfl, rfl, by first | rfl | simp only [SQ, hb1, hb5, n1, n2, n3, n4, n5, n6]⟩, rfl⟩
        ·
          simp only [SQ, ty3, s9.b 4 rfl, ty23, s9.b 3 rfl, len_sim ty23 rfl, hb1, hb5, n1, n2, n3, n4, n5, n6]
          refine hold_intro ?_
          exact ⟨⟨rfl, rfl, by first | rfl | simp only [SQ, hb1, hb5, n1, n2, n3, n4, n5, n6]⟩, rfl⟩
      · rintro a3 _ ⟨f3, rfl⟩
        refine U_fi f3 ?_
        rcases Bool.eq_false_or_eq_true (((decide (c1 ≠ (r3.length : Int))) && (decide (c1 ≠ (if 1 > most_1 then 1 else most_1))))) with hb6 | hb6
        ·
          rw [if_pos hb6] at h
          refine U_condT (by simp only [SQ, hb1, hb6, n1, n2, n3, n4, n5, n6]) ?_
          refine U_seq ?_
          refine U_reg ?_
          simp only [SQ, ty4, s9.b 2 rfl, hb1, hb6, n1, n2, n3, n4, n5, n6]
          refine N_put 2 s9 rfl fun H21 s21 => ?_
          simp only [SQ, hb1, hb6, n1, n2, n3, n4, n5, n6]
          refine hold_intro ?_
          refine U_ret ?_
          replace h := Option.some.inj h
          subst h
          refine ⟨.bool false, by simp only [ires, iress, Try.results7, SQ, List.toList_toArray, s21.b 2 rfl, ty4, hb1, hb6, n1, n2, n3, n4, n5, n6], ?_⟩
          exact .cl (closed_bool _)
        ·
          rw [if_neg (by rw [hb6]; decide)] at h
          refine U_condF (by simp only [SQ, hb1, hb6, n1, n2, n3, n4, n5, n6]) ?_
          refine U_skip ?_
          refine U_seq ?_
          obtain ⟨r5, kr5, h⟩ := bndO h
          refine U_reg ?_
          simp only [SQ, ty26, s9.b 0 rfl, sFnc, hb1, hb6, n1, n2, n3, n4, n5, n6]
          refine callP (w_ir_Map_at_dyehouselaw12_IrWalks_1 kr5) ?_
          simp only [SQ, ty26, hb1, hb6, n1, n2, n3, n4, n5, n6]
          refine N_box s9 rfl fun d7 H22 s22 => ?_
          simp only [SQ, ty26, sFnc, splice_all', s22.b 0 rfl, hb1, hb6, n1, n2, n3, n4, n5, n6]
          refine N_put 0 s22 rfl fun H23 s23 => ?_
          simp only [SQ, hb1, hb6, n1, n2, n3, n4, n5, n6]
          refine hold_intro ?_
          refine U_seq ?_
          refine U_fr 102 [(2, .pb d1 0 0), (4, .pb d3 0 0), (5, .pb d4 0 0), (9, .pb d7 0 0)] rfl rfl rfl ?_
          obtain ⟨r6, kr6, h⟩ := bndO h
          refine U_reg ?_
          simp only [SQ, ty26, s23.b 0 rfl, sFnc, hb1, hb6, n1, n2, n3, n4, n5, n6]
          refine callP (w_dyehouseref12_Operands kr6) ?_
          simp only [SQ, hb1, hb6, n1, n2, n3, n4, n5, n6]
          refine hold_intro ?_
          refine U_seq ?_
          refine U_seq ?_
          refine U_reg ?_
          simp only [SQ, len_sim ty23 rfl, ty23, s23.b 4 rfl, hb1, hb6, n1, n2, n3, n4, n5, n6]
          refine hold_intro ?_
          rcases Bool.eq_false_or_eq_true (decide ((r6.length : Int) ≠ (r3.length : Int))) with hb7 | hb7
          ·
            rw [if_pos hb7] at h
            refine U_condT (by simp only [SQ, hb1, hb6, hb7, n1, n2, n3, n4, n5, n6]) ?_
            refine U_seq ?_
            refine U_reg ?_
            simp only [SQ, ty4, s23.b 3 rfl, hb1, hb6, hb7, n1, n2, n3, n4, n5, n6]
            refine N_put 3 s23 rfl fun H24 s24 => ?_
            simp only [SQ, hb1, hb6, hb7, n1, n2, n3, n4, n5, n6]
            refine hold_intro ?_
            refine U_ret ?_
            replace h := Option.some.inj h
            subst h
            refine ⟨.bool false, by simp only [ires, iress, Try.results7, SQ, List.toList_toArray, s24.b 3 rfl, ty4, hb1, hb6, hb7, n1, n2, n3, n4, n5, n6], ?_⟩
            exact .cl (closed_bool _)
          ·
            rw [if_neg (by rw [hb7]; decide)] at h
            refine U_condF (by simp only [SQ, hb1, hb6, hb7, n1, n2, n3, n4, n5, n6]) ?_
            refine U_skip ?_
            refine U_seq ?_
            refine U_seq ?_
            refine U_reg ?_
            simp only [SQ, hb1, hb6, hb7, n1, n2, n3, n4, n5, n6]
            refine hold_intro ?_
            refine U_fr 102 [(2, .pb d1 0 0), (4, .pb d3 0 0), (5, .pb d4 0 0), (9, .pb d7 0 0), (10, .sim (r6.map eOpd) false), (11, .int .i64 0)] rfl rfl rfl ?_
            obtain ⟨u4, he2, h⟩ := bndE h
            obtain ⟨hhi1, hlo1, he2⟩ := toE_facts he2
            refine U_cut (fun a' H' => u4 = .n () ∧ Fi a' 102 [(2, .pb d1 0 0), (4, .pb d3 0 0), (9, .pb d7 0 0)] ∧ HS F [pt d1 ⟨5, [eFnc f_1]⟩, pt d3 ⟨1, [[.bool false]]⟩, pt d4 ⟨1, [[.sim (r3.map eOpd) false]]⟩, pt d7 ⟨5, [eFnc r5]⟩] H') (U_block (U_loop (fun z_ a' H' => match z_ with | i1 => forE ((r3.length : Int) - i1).toNat i1 (fun i _ => p_dyehouselaw12_IrWalks_b2 fuel r3 r6 i) () = some u4 ∧ 0 ≤ i1 ∧ Fi a' 102 [(2, .pb d1 0 0), (4, .pb d3 0 0), (5, .pb d4 0 0), (9, .pb d7 0 0), (10, .sim (r6.map eOpd) false), (11, .int .i64 i1)] ∧ HS F [pt d1 ⟨5, [eFnc f_1]⟩, pt d3 ⟨1, [[.bool false]]⟩, pt d4 ⟨1, [[.sim (r3.map eOpd) false]]⟩, pt d7 ⟨5, [eFnc r5]⟩] H' : Int → Fr → Heap → Prop) (fun z_ : Int => ((r3.length : Int) - z_).toNat) 0 ?_ ?_)) ?_
            · exact ⟨he2, Int.le_refl _, ⟨rfl, rfl, by first | rfl | simp only [SQ, hb1, hb6, hb7, n1, n2, n3, n4, n5, n6]⟩, s23.sel [1, 3, 4, 0] (by decide)⟩
            ·
              rintro i1 a4 H25 ⟨hf1, hl1, f4, s25⟩
              refine U_fi f4 ?_
              by_cases hlt1 : i1 < (r3.length : Int)
              ·
                obtain ⟨u5, hr2, hl2⟩ := forE_step hf1 hlt1
                replace hr2 : p_dyehouselaw12_IrWalks_b2 fuel r3 r6 i1 = some u5 := hr2
                unfold p_dyehouselaw12_IrWalks_b2 at hr2
                have hw1 := wrap_next hlt1 hhi1 hlo1 hl1
                have hlt1_t : decide (i1 < (r3.length : Int)) = true := decide_eq_true hlt1
                refine U_seq (U_seq ?_)
                refine U_reg ?_
                simp only [SQ, ty23, s25.b 2 rfl, len_sim ty23 rfl, hb1, hb6, hb7, hw1, hlt1_t, n1, n2, n3, n4, n5, n6]
                refine hold_intro ?_
                refine U_condT (by simp only [SQ, hb1, hb6, hb7, hw1, hlt1_t, n1, n2, n3, n4, n5, n6]) (U_skip ?_)
                refine U_seq ?_
                refine U_block ?_
                refine U_seq ?_
                obtain ⟨x2, kx2, hr2⟩ := bndO hr2
                refine U_drawQ hm [0, 0, 3, 7, 15, 0, 0, 96, 224, 480, 0, 0, 3072, 7168, 15360, 0, 0, 98304, 229376, 491520, 1048575, 0, 4194303] false 22 (by decide +kernel) (by decide) ?_
                simp only [SQ, ty23, s25.b 2 rfl, ty58, iia_sim (f := eOpd) ty23 rfl ty58 kx2 rfl, row_sim (f := eOpd) kx2, sOpd, ty3, fk58, hb1, hb6, hb7, hw1, hlt1_t, n1, n2, n3, n4, n5, n6]
                refine N_box s25 rfl fun d8 H26 s26 => ?_
                simp only [SQ, ty58, s26.b 0 rfl, hb1, hb6, hb7, hw1, hlt1_t, n1, n2, n3, n4, n5, n6]
                refine N_put 0 s26 rfl fun H27 s27 => ?_
                simp only [SQ, hb1, hb6, hb7, hw1, hlt1_t, n1, n2, n3, n4, n5, n6]
                refine hold_intro ?_
                refine U_seq ?_
                refine U_fr 102 [(2, .pb d1 0 0), (4, .pb d3 0 0), (5, .pb d4 0 0), (9, .pb d7 0 0), (10, .sim (r6.map eOpd) false), (11, .int .i64 i1), (12, .pb d8 0 0)] rfl rfl rfl ?_
                obtain ⟨x3, kx3, hr2⟩ := bndO hr2
                refine U_drawQ hm [0, 0, 3, 7, 0, 31] false 5 (by decide +kernel) (by decide) ?_
                simp only [SQ, ty23, ty58, iia_sim (f := eOpd) ty23 rfl ty58 kx3 rfl, row_sim (f := eOpd) kx3, sOpd, s27.b 0 rfl, qOpd, (Eq.trans rfl rfl : IV.agg [.int .i64 x2.kind, .int .i64 x2.cls, .int .i64 x2.tag, .int .i64 x2.n] = .agg (eOpd ((⟨x2.kind, x2.cls, x2.tag, x2.n⟩ : Opd) : Opd))), hb1, hb6, hb7, hw1, hlt1_t, n1, n2, n3, n4, n5, n6]
                refine hold_intro ?_
                rcases Bool.eq_false_or_eq_true ((!decide (x3 = (⟨x2.kind, x2.cls, x2.tag, x2.n⟩ : Opd)))) with hb8 | hb8
                ·
                  rw [if_pos hb8] at hr2
                  refine U_condT (by simp only [SQ, hb1, hb6, hb7, hw1, hlt1_t, hb8, n1, n2, n3, n4, n5, n6]) ?_
                  refine U_seq ?_
                  refine U_reg ?_
                  simp only [SQ, ty4, s27.b 2 rfl, hb1, hb6, hb7, hw1, hlt1_t, hb8, n1, n2, n3, n4, n5, n6]
                  refine N_put 2 s27 rfl fun H28 s28 => ?_
                  simp only [SQ, hb1, hb6, hb7, hw1, hlt1_t, hb8, n1, n2, n3, n4, n5, n6]
                  refine hold_intro ?_
                  refine U_ret ?_
                  replace hr2 := Option.some.inj hr2
                  subst hr2
                  replace hl2 : u4 = .r _ := hl2
                  subst hl2
                  replace h := outE_r h
                  replace h := Option.some.inj h
                  subst h
                  refine ⟨.bool false, by simp only [ires, iress, Try.results7, SQ, List.toList_toArray, s28.b 2 rfl, ty4, hb1, hb6, hb7, hw1, hlt1_t, hb8, n1, n2, n3, n4, n5, n6], ?_⟩
                  exact .cl (closed_bool _)
                ·
                  rw [if_neg (by rw [hb8]; decide)] at hr2
                  refine U_condF (by simp only [SQ, hb1, hb6, hb7, hw1, hlt1_t, hb8, n1, n2, n3, n4, n5, n6]) ?_
                  refine U_skip ?_
                  refine U_reg ?_
                  simp only [SQ, hb1, hb6, hb7, hw1, hlt1_t, hb8, n1, n2, n3, n4, n5, n6]
                  refine hold_intro ?_
                  replace hr2 := Option.some.inj hr2
                  subst hr2
                  refine ⟨i1 + 1, ?_, hl2, Int.le_add_one hl1, ⟨rfl, rfl, by first | rfl | simp only [SQ, hb1, hb6, hb7, hw1, hlt1_t, hb8, n1, n2, n3, n4, n5, n6]⟩, s27.sel [1, 2, 3, 4] (by decide)⟩
                  show ((r3.length : Int) - (i1 + 1)).toNat < ((r3.length : Int) - i1).toNat; omega
              ·
                have hlt1_e := forE_end hf1 hlt1
                have hlt1_t : decide (i1 < (r3.length : Int)) = false := decide_eq_false hlt1
                refine U_seq (U_seq ?_)
                refine U_reg ?_
                simp only [SQ, ty23, s25.b 2 rfl, len_sim ty23 rfl, hb1, hb6, hb7, hlt1_t, n1, n2, n3, n4, n5, n6]
                refine hold_intro ?_
                refine U_condF (by simp only [SQ, hb1, hb6, hb7, hlt1_t, n1, n2, n3, n4, n5, n6]) (U_exit rfl ?_)
                exact ⟨hlt1_e, ⟨rfl, rfl, by first | rfl | simp only [SQ, hb1, hb6, hb7, hlt1_t, n1, n2, n3, n4, n5, n6]⟩, s25⟩
            ·
              rintro a5 H29 ⟨rfl, f5, s29⟩
              replace h := outE_n h
              refine U_fi f5 ?_
              refine U_seq ?_
              obtain ⟨r7, kr7, h⟩ := bndO h
              refine U_reg ?_
              simp only [SQ, ty26, s29.b 3 rfl, sFnc, hb1, hb6, hb7, n1, n2, n3, n4, n5, n6]
              refine callP (w_ir_Map_at_dyehouselaw12_IrWalks_2 kr7) ?_
              simp only [SQ, ty26, hb1, hb6, hb7, n1, n2, n3, n4, n5, n6]
              refine N_box s29 rfl fun d9 H30 s30 => ?_
              simp only [SQ, ty26, sFnc, splice_all', s30.b 0 rfl, hb1, hb6, hb7, n1, n2, n3, n4, n5, n6]
              refine N_put 0 s30 rfl fun H31 s31 => ?_
              simp only [SQ, hb1, hb6, hb7, n1, n2, n3, n4, n5, n6]
              refine hold_intro ?_
              refine U_seq ?_
              refine U_fr 102 [(2, .pb d1 0 0), (4, .pb d3 0 0), (13, .pb d9 0 0)] rfl rfl rfl ?_
              obtain ⟨r8, kr8, h⟩ := bndO h
              obtain ⟨b2, kb2, h⟩ := bndO h
              refine U_cut (fun a' H' => Fi a' 102 [(4, .pb d3 0 0)] ∧ HS F [pt d3 ⟨1, [[.bool b2]]⟩] H') ?_ ?_
              · refine U_reg ?_
                rcases Bool.eq_false_or_eq_true (r8) with hb9 | hb9
                ·
                  have hx3 := hb9
                  rw [if_pos hx3] at kb2
                  obtain ⟨r9, kr9, kb2⟩ := bndO kb2
                  have hq3 := (Option.some.inj kb2).symm
                  simp only [SQ, ty26, s31.b 0 rfl, sFnc, s31.b 1 rfl, hb1, hb6, hb7, hb9, hq3, n1, n2, n3, n4, n5, n6]
                  refine callP (w_dyehouseref12_Same kr8) ?_
                  simp only [SQ, hb1, hb6, hb7, hb9, hq3, n1, n2, n3, n4, n5, n6]
                  refine callP (w_dyehouselaw12_works kr9) ?_
                  simp only [SQ, ty4, s31.b 2 rfl, hb1, hb6, hb7, hb9, hq3, n1, n2, n3, n4, n5, n6]
                  refine N_put 2 s31 rfl fun H32 s32 => ?_
                  simp only [SQ, hb1, hb6, hb7, hb9, hq3, n1, n2, n3, n4, n5, n6]
                  refine hold_intro ?_
                  exact ⟨⟨rfl, rfl, by first | rfl | simp only [SQ, hb1, hb6, hb7, hb9, hq3, n1, n2, n3, n4, n5, n6]⟩, (by (try rw [hq3]); exact s32.sel [2] (by decide))⟩
                ·
                  have hx4 := hb9
                  rw [if_neg (by rw [hx4]; decide)] at kb2
                  have hq4 := (Option.some.inj kb2).symm
                  simp only [SQ, ty26, s31.b 0 rfl, sFnc, s31.b 1 rfl, hb1, hb6, hb7, hb9, hq4, n1, n2, n3, n4, n5, n6]
                  refine callP (w_dyehouseref12_Same kr8) ?_
                  simp only [SQ, ty4, s31.b 2 rfl, hb1, hb6, hb7, hb9, hq4, n1, n2, n3, n4, n5, n6]
                  refine N_put 2 s31 rfl fun H32 s32 => ?_
                  simp only [SQ, hb1, hb6, hb7, hb9, hq4, n1, n2, n3, n4, n5, n6]
                  refine hold_intro ?_
                  exact ⟨⟨rfl, rfl, by first | rfl | simp only [SQ, hb1, hb6, hb7, hb9, hq4, n1, n2, n3, n4, n5, n6]⟩, (by (try rw [hq4]); exact s32.sel [2] (by decide))⟩
              · rintro a6 H33 ⟨f6, s33⟩
                refine U_fi f6 ?_
                refine U_ret ?_
                replace h := Option.some.inj h
                subst h
                refine ⟨.bool b2, by simp only [ires, iress, Try.results7, SQ, List.toList_toArray, s33.b 0 rfl, ty4, hb1, hb6, hb7, n1, n2, n3, n4, n5, n6], ?_⟩
                exact .cl (closed_bool _)

end Go.Proofs.Ytodafoajkajnkaa.IL
