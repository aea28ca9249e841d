/- The code of functions computes the pure ones. Printed by tq.py. -/
import Derived.Test.YtodafoajkajnkaaSameX1
import Derived.Test.YtodafoajkajnkaaQT
import Derived.Test.YtodafoajkajnkaaSL
import Derived.Test.YtodafoajkajnkaaSameP
set_option linter.unusedVariables false
set_option linter.unusedSimpArgs false
set_option linter.defProp false
set_option maxRecDepth 100000
set_option maxHeartbeats 2000000
namespace Go.Proofs.Ytodafoajkajnkaa.IL
open Go Go.RowKit PL
open Nat renaming reduceLT → n1, reduceEqDiff → n2, reduceAdd → n3, reduceLeDiff → n4, reduceMul → n5
open Int renaming reduceEq → n6
theorem w_dyehouseref12_Ints {fuel : Nat} {av_1 : List Int} {b_1 : List Int} {r0_ : Bool} (h : p_dyehouseref12_Ints fuel av_1 b_1 = some r0_) : Pure1 Try.prog 19 [.sim (av_1.map eInt) false, .sim (b_1.map eInt) false] (.bool r0_) := by
  refine Pure1_S (all_cl (cl_map cl_eInt av_1) (all_cl (cl_map cl_eInt b_1) all_cl0)) fun F H s0 => ?_
  refine U_call 0 Try.func19 rfl (by kernel_rfl) (by simp [Try.ntmps19]) ?_
  rw [Try.ntmps19]
  refine U_fr 26 [(0, .sim (av_1.map eInt) false), (1, .sim (b_1.map eInt) false)] rfl rfl rfl ?_
  unfold p_dyehouseref12_Ints at h
  refine U_seq ?_
  refine U_reg ?_
  simp only [SQ, n1, n2, n3, n4, n5, n6]
  refine hold_intro ?_
  refine U_seq ?_
  refine U_seq ?_
  refine U_reg ?_
  simp only [SQ, len_sim ty37 rfl, n1, n2, n3, n4, n5, n6]
  refine hold_intro ?_
  rcases Bool.eq_false_or_eq_true (decide ((av_1.length : Int) ≠ (b_1.length : Int))) with hb1 | hb1
  ·
    rw [if_pos hb1] at h
    refine U_condT (by simp only [SQ, hb1, n1, n2, n3, n4, n5, n6]) ?_
    refine U_seq ?_
    refine U_reg ?_
    simp only [SQ, hb1, n1, n2, n3, n4, n5, n6]
    refine hold_intro ?_
    refine U_ret ?_
    replace h := Option.some.inj h
    subst h
    refine ⟨.bool false, by simp only [ires, iress, Try.results19, SQ, List.toList_toArray, hb1, n1, n2, n3, n4, n5, n6], ?_⟩
    exact .cl (closed_bool _)
  ·
    rw [if_neg (by rw [hb1]; decide)] at h
    refine U_condF (by simp only [SQ, hb1, n1, n2, n3, n4, n5, n6]) ?_
    refine U_skip ?_
    refine U_seq ?_
    refine U_seq ?_
    refine U_reg ?_
    simp only [SQ, hb1, n1, n2, n3, n4, n5, n6]
    refine hold_intro ?_
    refine U_fr 26 [(0, .sim (av_1.map eInt) false), (1, .sim (b_1.map eInt) false), (5, .int .i64 0)] rfl rfl rfl ?_
    obtain ⟨u1, he1, h⟩ := bndE h
    obtain ⟨hhi1, hlo1, he1⟩ := toE_facts he1
    refine U_cut (fun a' H' => u1 = .n () ∧ Fi a' 26 [] ∧ HS F [] H') (U_block (U_loop (fun z_ a' H' => match z_ with | i1 => forE ((av_1.length : Int) - i1).toNat i1 (fun i _ => p_dyehouseref12_Ints_b1 fuel av_1 b_1 i) () = some u1 ∧ 0 ≤ i1 ∧ Fi a' 26 [(0, .sim (av_1.map eInt) false), (1, .sim (b_1.map eInt) false), (5, .int .i64 i1)] ∧ HS F [] H' : Int → Fr → Heap → Prop) (fun z_ : Int => ((av_1.length : Int) - z_).toNat) 0 ?_ ?_)) ?_
    · exact ⟨he1, Int.le_refl _, ⟨rfl, rfl, by first | rfl | simp only [SQ, hb1, n1, n2, n3, n4, n5, n6]⟩, s0⟩
    ·
      rintro i1 a1 H1 ⟨hf1, hl1, f1, s1⟩
      refine U_fi f1 ?_
      by_cases hlt1 : i1 < (av_1.length : Int)
      ·
        obtain ⟨u2, hr1, hl2⟩ := forE_step hf1 hlt1
        replace hr1 : p_dyehouseref12_Ints_b1 fuel av_1 b_1 i1 = some u2 := hr1
        unfold p_dyehouseref12_Ints_b1 at hr1
        have hw1 := wrap_next hlt1 hhi1 hlo1 hl1
        have hlt1_t : decide (i1 < (av_1.length : Int)) = true := decide_eq_true hlt1
        refine U_seq (U_seq ?_)
        refine U_reg ?_
        simp only [SQ, len_sim ty37 rfl, hb1, hw1, hlt1_t, n1, n2, n3, n4, n5, n6]
        refine hold_intro ?_
        refine U_condT (by simp only [SQ, hb1, hw1, hlt1_t, n1, n2, n3, n4, n5, n6]) (U_skip ?_)
        refine U_seq ?_
        refine U_block ?_
        refine U_seq ?_
        obtain ⟨x1, kx1, hr1⟩ := bndO hr1
        obtain ⟨x2, kx2, hr1⟩ := bndO hr1
        refine U_drawQ hm [0, 0, 3, 7, 0, 0, 48, 112, 255] false 8 (by decide +kernel) (by decide) ?_
        simp only [SQ, ty37, ty3, iia_sim (f := eInt) ty37 rfl ty3 kx1 rfl, row_sim (f := eInt) kx1, iia_sim (f := eInt) ty37 rfl ty3 kx2 rfl, row_sim (f := eInt) kx2, hb1, hw1, hlt1_t, n1, n2, n3, n4, n5, n6]
        refine hold_intro ?_
        rcases Bool.eq_false_or_eq_true (decide (x1 ≠ x2)) with hb2 | hb2
        ·
          rw [if_pos hb2] at hr1
          refine U_condT (by simp only [SQ, hb1, hw1, hlt1_t, hb2, n1, n2, n3, n4, n5, n6]) ?_
          refine U_seq ?_
          refine U_fr 26 [] rfl rfl rfl ?_
          refine U_reg ?_
          simp only [SQ, hb1, hw1, hlt1_t, hb2, n1, n2, n3, n4, n5, n6]
          refine hold_intro ?_
          refine U_ret ?_
          replace hr1 := Option.some.inj hr1
          subst hr1
          replace hl2 : u1 = .r _ := hl2
          subst hl2
          replace h := outE_r h
          replace h := Option.some.inj h
          subst h
          refine ⟨.bool false, by simp only [ires, iress, Try.results19, SQ, List.toList_toArray, hb1, hw1, hlt1_t, hb2, n1, n2, n3, n4, n5, n6], ?_⟩
          exact .cl (closed_bool _)
        ·
          rw [if_neg (by rw [hb2]; decide)] at hr1
          refine U_condF (by simp only [SQ, hb1, hw1, hlt1_t, hb2, n1, n2, n3, n4, n5, n6]) ?_
          refine U_skip ?_
          refine U_reg ?_
          simp only [SQ, hb1, hw1, hlt1_t, hb2, n1, n2, n3, n4, n5, n6]
          refine hold_intro ?_
          replace hr1 := Option.some.inj hr1
          subst hr1
          refine ⟨i1 + 1, ?_, hl2, Int.le_add_one hl1, ⟨rfl, rfl, by first | rfl | simp only [SQ, hb1, hw1, hlt1_t, hb2, n1, n2, n3, n4, n5, n6]⟩, s1⟩
          show ((av_1.length : Int) - (i1 + 1)).toNat < ((av_1.length : Int) - i1).toNat; omega
      ·
        have hlt1_e := forE_end hf1 hlt1
        have hlt1_t : decide (i1 < (av_1.length : Int)) = false := decide_eq_false hlt1
        refine U_seq (U_seq ?_)
        refine U_reg ?_
        simp only [SQ, len_sim ty37 rfl, hb1, hlt1_t, n1, n2, n3, n4, n5, n6]
        refine hold_intro ?_
        refine U_condF (by simp only [SQ, hb1, hlt1_t, n1, n2, n3, n4, n5, n6]) (U_exit rfl ?_)
        exact ⟨hlt1_e, ⟨rfl, rfl, by first | rfl | simp only [SQ, hb1, hlt1_t, n1, n2, n3, n4, n5, n6]⟩, s1⟩
    ·
      rintro a2 H2 ⟨rfl, f2, s2⟩
      replace h := outE_n h
      refine U_fi f2 ?_
      refine U_seq ?_
      refine U_reg ?_
      simp only [SQ, hb1, n1, n2, n3, n4, n5, n6]
      refine hold_intro ?_
      refine U_ret ?_
      replace h := Option.some.inj h
      subst h
      refine ⟨.bool true, by simp only [ires, iress, Try.results19, SQ, List.toList_toArray, hb1, n1, n2, n3, n4, n5, n6], ?_⟩
      exact .cl (closed_bool _)

theorem w_dyehouseref12_Target {fuel : Nat} {av_1 : Tgt} {b_1 : Tgt} {r0_ : Bool} (h : p_dyehouseref12_Target fuel av_1 b_1 = some r0_) : Pure1 Try.prog 61 [.agg (eTgt av_1), .agg (eTgt b_1)] (.bool r0_) := by
  refine Pure1_S (all_cl (cl_agg (cl_eTgt _)) (all_cl (cl_agg (cl_eTgt _)) all_cl0)) fun F H s0 => ?_
  refine U_call 0 Try.func61 rfl (by kernel_rfl) (by simp [Try.ntmps61]) ?_
  rw [Try.ntmps61]
  refine U_fr 35 [(0, .agg (eTgt av_1)), (1, .agg (eTgt b_1))] rfl rfl rfl ?_
  unfold p_dyehouseref12_Target at h
  refine U_seq ?_
  refine U_reg ?_
  simp only [SQ, ty90, sTgt, n1, n2, n3, n4, n5, n6]
  refine N_box s0 rfl fun d1 H1 s1 => ?_
  simp only [SQ, ty90, sTgt, n1, n2, n3, n4, n5, n6]
  refine N_box s1 rfl fun d2 H2 s2 => ?_
  simp only [SQ, n1, n2, n3, n4, n5, n6]
  refine hold_intro ?_
  refine U_seq ?_
  refine U_fr 35 [(2, .pb d1 0 0), (3, .pb d2 0 0), (4, .bool false)] rfl rfl rfl ?_
  obtain ⟨b1, kb1, h⟩ := bndO h
  obtain ⟨b2, kb2, h⟩ := bndO h
  refine U_cut (fun a' H' => Fi a' 35 [(4, .bool b2)] ∧ H2 = H') ?_ ?_
  · refine U_reg ?_
    rcases Bool.eq_false_or_eq_true (decide (av_1.regs = b_1.regs)) with hb1 | hb1
    ·
      rcases Bool.eq_false_or_eq_true (decide (av_1.slots = b_1.slots)) with hb2 | hb2
      ·
        have hx1 : ((decide (av_1.regs = b_1.regs)) && (decide (av_1.slots = b_1.slots))) = true := by simp only [SQ, hb1, hb2]
        rw [if_pos hx1] at kb1
        obtain ⟨r1, kr1, kb1⟩ := bndO kb1
        have hq1 := (Option.some.inj kb1).symm
        rcases Bool.eq_false_or_eq_true (r1) with hb3 | hb3
        ·
          have hx2 : b1 = true := by simp only [SQ, hb1, hb2, hq1, hb3]
          rw [if_pos hx2] at kb2
          obtain ⟨r2, kr2, kb2⟩ := bndO kb2
          have hq2 := (Option.some.inj kb2).symm
          simp only [SQ, ty90, ty41, s2.b 1 rfl, sTgt, s2.b 0 rfl, sA41, q41, ty3, ty88, ty37, iia_arr (P := Try.prog) (j := 0) (m := 0) ty88 rfl ty37 (by decide) rfl, hb1, hb2, hq1, hb3, hq2, n1, n2, n3, n4, n5, n6]
          refine callP (w_dyehouseref12_Ints kr1) ?_
          simp only [SQ, ty90, ty88, ty37, iia_arr (P := Try.prog) (j := 1) (m := 1) ty88 rfl ty37 (by decide) rfl, s2.b 1 rfl, sTgt, s2.b 0 rfl, hb1, hb2, hq1, hb3, hq2, n1, n2, n3, n4, n5, n6]
          refine callP (w_dyehouseref12_Ints kr2) ?_
          simp only [SQ, hb1, hb2, hq1, hb3, hq2, n1, n2, n3, n4, n5, n6]
          refine hold_intro ?_
          exact ⟨⟨rfl, rfl, by first | rfl | simp only [SQ, hb1, hb2, hq1, hb3, hq2, n1, n2, n3, n4, n5, n6]⟩, rfl⟩
        ·
          have hx3 : b1 = false := by simp only [SQ, hb1, hb2, hq1, hb3]
          rw [if_neg (by rw [hx3]; decide)] at kb2
          have hq3 := (Option.some.inj kb2).symm
          simp only [SQ, ty90, ty41, s2.b 1 rfl, sTgt, s2.b 0 rfl, sA41, q41, ty3, ty88, ty37, iia_arr (P := Try.prog) (j := 0) (m := 0) ty88 rfl ty37 (by decide) rfl, hb1, hb2, hq1, hb3, hq3, n1, n2, n3, n4, n5, n6]
          refine callP (w_dyehouseref12_Ints kr1) ?_
          simp only [SQ, hb1, hb2, hq1, hb3, hq3, n1, n2, n3, n4, n5, n6]
          refine hold_intro ?_
          exact ⟨⟨rfl, rfl, by first | rfl | simp only [SQ, hb1, hb2, hq1, hb3, hq3, n1, n2, n3, n4, n5, n6]⟩, rfl⟩
      ·
        have hx4 : ((decide (av_1.regs = b_1.regs)) && (decide (av_1.slots = b_1.slots))) = false := by simp only [SQ, hb1, hb2]
        rw [if_neg (by rw [hx4]; decide)] at kb1
        have hq4 := (Option.some.inj kb1).symm
        have hx5 : b1 = false := by simp only [SQ, hb1, hb2, hq4]
        rw [if_neg (by rw [hx5]; decide)] at kb2
        have hq5 := (Option.some.inj kb2).symm
        simp only [SQ, ty90, ty41, s2.b 1 rfl, sTgt, s2.b 0 rfl, sA41, q41, ty3, hb1, hb2, hq4, hq5, n1, n2, n3, n4, n5, n6]
        refine hold_intro ?_
        exact ⟨⟨rfl, rfl, by first | rfl | simp only [SQ, hb1, hb2, hq4, hq5, n1, n2, n3, n4, n5, n6]⟩, rfl⟩
    ·
      have hx6 : ((decide (av_1.regs = b_1.regs)) && (decide (av_1.slots = b_1.slots))) = false := by simp only [SQ, hb1]
      rw [if_neg (by rw [hx6]; decide)] at kb1
      have hq6 := (Option.some.inj kb1).symm
      have hx7 : b1 = false := by simp only [SQ, hb1, hq6]
      rw [if_neg (by rw [hx7]; decide)] at kb2
      have hq7 := (Option.some.inj kb2).symm
      simp only [SQ, ty90, ty41, s2.b 1 rfl, sTgt, s2.b 0 rfl, sA41, q41, hb1, hq6, hq7, n1, n2, n3, n4, n5, n6]
      refine hold_intro ?_
      exact ⟨⟨rfl, rfl, by first | rfl | simp only [SQ, hb1, hq6, hq7, n1, n2, n3, n4, n5, n6]⟩, rfl⟩
  · rintro a1 _ ⟨f1, rfl⟩
    refine U_fi f1 ?_
    refine U_ret ?_
    replace h := Option.some.inj h
    subst h
    refine ⟨.bool b2, by simp only [ires, iress, Try.results61, SQ, List.toList_toArray, n1, n2, n3, n4, n5, n6], ?_⟩
    exact .cl (closed_bool _)

theorem w_dyehouseref12_same {fuel : Nat} {av_1 : List Opd} {b_1 : List Opd} {r0_ : Bool} (h : p_dyehouseref12_same fuel av_1 b_1 = some r0_) : Pure1 Try.prog 99 [.sim (av_1.map eOpd) false, .sim (b_1.map eOpd) false] (.bool r0_) := by
  refine Pure1_S (all_cl (cl_map cl_eOpd av_1) (all_cl (cl_map cl_eOpd b_1) all_cl0)) fun F H s0 => ?_
  refine U_call 0 Try.func99 rfl (by kernel_rfl) (by simp [Try.ntmps99]) ?_
  rw [Try.ntmps99]
  refine U_fr 26 [(0, .sim (av_1.map eOpd) false), (1, .sim (b_1.map eOpd) false)] rfl rfl rfl ?_
  unfold p_dyehouseref12_same at h
  refine U_seq ?_
  refine U_reg ?_
  simp only [SQ, n1, n2, n3, n4, n5, n6]
  refine hold_intro ?_
  refine U_seq ?_
  refine U_seq ?_
  refine U_reg ?_
  simp only [SQ, len_sim ty23 rfl, n1, n2, n3, n4, n5, n6]
  refine hold_intro ?_
  rcases Bool.eq_false_or_eq_true (decide ((av_1.length : Int) ≠ (b_1.length : Int))) with hb1 | hb1
  ·
    rw [if_pos hb1] at h
    refine U_condT (by simp only [SQ, hb1, n1, n2, n3, n4, n5, n6]) ?_
    refine U_seq ?_
    refine U_reg ?_
    simp only [SQ, hb1, n1, n2, n3, n4, n5, n6]
    refine hold_intro ?_
    refine U_ret ?_
    replace h := Option.some.inj h
    subst h
    refine ⟨.bool false, by simp only [ires, iress, Try.results99, SQ, List.toList_toArray, hb1, n1, n2, n3, n4, n5, n6], ?_⟩
    exact .cl (closed_bool _)
  ·
    rw [if_neg (by rw [hb1]; decide)] at h
    refine U_condF (by simp only [SQ, hb1, n1, n2, n3, n4, n5, n6]) ?_
    refine U_skip ?_
    refine U_seq ?_
    refine U_seq ?_
    refine U_reg ?_
    simp only [SQ, hb1, n1, n2, n3, n4, n5, n6]
    refine hold_intro ?_
    refine U_fr 26 [(0, .sim (av_1.map eOpd) false), (1, .sim (b_1.map eOpd) false), (5, .int .i64 0)] rfl rfl rfl ?_
    obtain ⟨u1, he1, h⟩ := bndE h
    obtain ⟨hhi1, hlo1, he1⟩ := toE_facts he1
    refine U_cut (fun a' H' => u1 = .n () ∧ Fi a' 26 [] ∧ HS F [] H') (U_block (U_loop (fun z_ a' H' => match z_ with | i1 => forE ((av_1.length : Int) - i1).toNat i1 (fun i _ => p_dyehouseref12_same_b1 fuel av_1 b_1 i) () = some u1 ∧ 0 ≤ i1 ∧ Fi a' 26 [(0, .sim (av_1.map eOpd) false), (1, .sim (b_1.map eOpd) false), (5, .int .i64 i1)] ∧ HS F [] H' : Int → Fr → Heap → Prop) (fun z_ : Int => ((av_1.length : Int) - z_).toNat) 0 ?_ ?_)) ?_
    · exact ⟨he1, Int.le_refl _, ⟨rfl, rfl, by first | rfl | simp only [SQ, hb1, n1, n2, n3, n4, n5, n6]⟩, s0⟩
    ·
      rintro i1 a1 H1 ⟨hf1, hl1, f1, s1⟩
      refine U_fi f1 ?_
      by_cases hlt1 : i1 < (av_1.length : Int)
      ·
        obtain ⟨u2, hr1, hl2⟩ := forE_step hf1 hlt1
        replace hr1 : p_dyehouseref12_same_b1 fuel av_1 b_1 i1 = some u2 := hr1
        unfold p_dyehouseref12_same_b1 at hr1
        have hw1 := wrap_next hlt1 hhi1 hlo1 hl1
        have hlt1_t : decide (i1 < (av_1.length : Int)) = true := decide_eq_true hlt1
        refine U_seq (U_seq ?_)
        refine U_reg ?_
        simp only [SQ, len_sim ty23 rfl, hb1, hw1, hlt1_t, n1, n2, n3, n4, n5, n6]
        refine hold_intro ?_
        refine U_condT (by simp only [SQ, hb1, hw1, hlt1_t, n1, n2, n3, n4, n5, n6]) (U_skip ?_)
        refine U_seq ?_
        refine U_block ?_
        refine U_seq ?_
        obtain ⟨x1, kx1, hr1⟩ := bndO hr1
        obtain ⟨x2, kx2, hr1⟩ := bndO hr1
        refine U_drawQ hm [0, 0, 3, 7, 0, 0, 48, 112, 255] false 8 (by decide +kernel) (by decide) ?_
        simp only [SQ, ty23, ty58, iia_sim (f := eOpd) ty23 rfl ty58 kx1 rfl, row_sim (f := eOpd) kx1, sOpd, iia_sim (f := eOpd) ty23 rfl ty58 kx2 rfl, row_sim (f := eOpd) kx2, qOpd, hb1, hw1, hlt1_t, n1, n2, n3, n4, n5, n6]
        refine hold_intro ?_
        rcases Bool.eq_false_or_eq_true ((!decide (x1 = x2))) with hb2 | hb2
        ·
          rw [if_pos hb2] at hr1
          refine U_condT (by simp only [SQ, hb1, hw1, hlt1_t, hb2, n1, n2, n3, n4, n5, n6]) ?_
          refine U_seq ?_
          refine U_fr 26 [] rfl rfl rfl ?_
          refine U_reg ?_
          simp only [SQ, hb1, hw1, hlt1_t, hb2, n1, n2, n3, n4, n5, n6]
          refine hold_intro ?_
          refine U_ret ?_
          replace hr1 := Option.some.inj hr1
          subst hr1
          replace hl2 : u1 = .r _ := hl2
          subst hl2
          replace h := outE_r h
          replace h := Option.some.inj h
          subst h
          refine ⟨.bool false, by simp only [ires, iress, Try.results99, SQ, List.toList_toArray, hb1, hw1, hlt1_t, hb2, n1, n2, n3, n4, n5, n6], ?_⟩
          exact .cl (closed_bool _)
        ·
          rw [if_neg (by rw [hb2]; decide)] at hr1
          refine U_condF (by simp only [SQ, hb1, hw1, hlt1_t, hb2, n1, n2, n3, n4, n5, n6]) ?_
          refine U_skip ?_
          refine U_reg ?_
          simp only [SQ, hb1, hw1, hlt1_t, hb2, n1, n2, n3, n4, n5, n6]
          refine hold_intro ?_
          replace hr1 := Option.some.inj hr1
          subst hr1
          refine ⟨i1 + 1, ?_, hl2, Int.le_add_one hl1, ⟨rfl, rfl, by first | rfl | simp only [SQ, hb1, hw1, hlt1_t, hb2, n1, n2, n3, n4, n5, n6]⟩, s1⟩
          show ((av_1.length : Int) - (i1 + 1)).toNat < ((av_1.length : Int) - i1).toNat; omega
      ·
        have hlt1_e := forE_end hf1 hlt1
        have hlt1_t : decide (i1 < (av_1.length : Int)) = false := decide_eq_false hlt1
        refine U_seq (U_seq ?_)
        refine U_reg ?_
        simp only [SQ, len_sim ty23 rfl, hb1, hlt1_t, n1, n2, n3, n4, n5, n6]
        refine hold_intro ?_
        refine U_condF (by simp only [SQ, hb1, hlt1_t, n1, n2, n3, n4, n5, n6]) (U_exit rfl ?_)
        exact ⟨hlt1_e, ⟨rfl, rfl, by first | rfl | simp only [SQ, hb1, hlt1_t, n1, n2, n3, n4, n5, n6]⟩, s1⟩
    ·
      rintro a2 H2 ⟨rfl, f2, s2⟩
      replace h := outE_n h
      refine U_fi f2 ?_
      refine U_seq ?_
      refine U_reg ?_
      simp only [SQ, hb1, n1, n2, n3, n4, n5, n6]
      refine hold_intro ?_
      refine U_ret ?_
      replace h := Option.some.inj h
      subst h
      refine ⟨.bool true, by simp only [ires, iress, Try.results99, SQ, List.toList_toArray, hb1, n1, n2, n3, n4, n5, n6], ?_⟩
      exact .cl (closed_bool _)

theorem w_dyehouseref12_Texts {fuel : Nat} {av_1 : List ByteArray} {b_1 : List ByteArray} {r0_ : Bool} (h : p_dyehouseref12_Texts fuel av_1 b_1 = some r0_) : Pure1 Try.prog 107 [.sim (av_1.map eStr) false, .sim (b_1.map eStr) false] (.bool r0_) := by
  refine Pure1_S (all_cl (cl_map cl_eStr av_1) (all_cl (cl_map cl_eStr b_1) all_cl0)) fun F H s0 => ?_
  refine U_call 0 Try.func107 rfl (by kernel_rfl) (by simp [Try.ntmps107]) ?_
  rw [Try.ntmps107]
  refine U_fr 26 [(0, .sim (av_1.map eStr) false), (1, .sim (b_1.map eStr) false)] rfl rfl rfl ?_
  unfold p_dyehouseref12_Texts at h
  refine U_seq ?_
  refine U_reg ?_
  simp only [SQ, n1, n2, n3, n4, n5, n6]
  refine hold_intro ?_
  refine U_seq ?_
  refine U_seq ?_
  refine U_reg ?_
  simp only [SQ, len_sim ty64 rfl, n1, n2, n3, n4, n5, n6]
  refine hold_intro ?_
  rcases Bool.eq_false_or_eq_true (decide ((av_1.length : Int) ≠ (b_1.length : Int))) with hb1 | hb1
  ·
    rw [if_pos hb1] at h
    refine U_condT (by simp only [SQ, hb1, n1, n2, n3, n4, n5, n6]) ?_
    refine U_seq ?_
    refine U_reg ?_
    simp only [SQ, hb1, n1, n2, n3, n4, n5, n6]
    refine hold_intro ?_
    refine U_ret ?_
    replace h := Option.some.inj h
    subst h
    refine ⟨.bool false, by simp only [ires, iress, Try.results107, SQ, List.toList_toArray, hb1, n1, n2, n3, n4, n5, n6], ?_⟩
    exact .cl (closed_bool _)
  ·
    rw [if_neg (by rw [hb1]; decide)] at h
    refine U_condF (by simp only [SQ, hb1, n1, n2, n3, n4, n5, n6]) ?_
    refine U_skip ?_
    refine U_seq ?_
    refine U_seq ?_
    refine U_reg ?_
    simp only [SQ, hb1, n1, n2, n3, n4, n5, n6]
    refine hold_intro ?_
    refine U_fr 26 [(0, .sim (av_1.map eStr) false), (1, .sim (b_1.map eStr) false), (5, .int .i64 0)] rfl rfl rfl ?_
    obtain ⟨u1, he1, h⟩ := bndE h
    obtain ⟨hhi1, hlo1, he1⟩ := toE_facts he1
    refine U_cut (fun a' H' => u1 = .n () ∧ Fi a' 26 [] ∧ HS F [] H') (U_block (U_loop (fun z_ a' H' => match z_ with | i1 => forE ((av_1.length : Int) - i1).toNat i1 (fun i _ => p_dyehouseref12_Texts_b1 fuel av_1 b_1 i) () = some u1 ∧ 0 ≤ i1 ∧ Fi a' 26 [(0, .sim (av_1.map eStr) false), (1, .sim (b_1.map eStr) false), (5, .int .i64 i1)] ∧ HS F [] H' : Int → Fr → Heap → Prop) (fun z_ : Int => ((av_1.length : Int) - z_).toNat) 0 ?_ ?_)) ?_
    · exact ⟨he1, Int.le_refl _, ⟨rfl, rfl, by first | rfl | simp only [SQ, hb1, n1, n2, n3, n4, n5, n6]⟩, s0⟩
    ·
      rintro i1 a1 H1 ⟨hf1, hl1, f1, s1⟩
      refine U_fi f1 ?_
      by_cases hlt1 : i1 < (av_1.length : Int)
      ·
        obtain ⟨u2, hr1, hl2⟩ := forE_step hf1 hlt1
        replace hr1 : p_dyehouseref12_Texts_b1 fuel av_1 b_1 i1 = some u2 := hr1
        unfold p_dyehouseref12_Texts_b1 at hr1
        have hw1 := wrap_next hlt1 hhi1 hlo1 hl1
        have hlt1_t : decide (i1 < (av_1.length : Int)) = true := decide_eq_true hlt1
        refine U_seq (U_seq ?_)
        refine U_reg ?_
        simp only [SQ, len_sim ty64 rfl, hb1, hw1, hlt1_t, n1, n2, n3, n4, n5, n6]
        refine hold_intro ?_
        refine U_condT (by simp only [SQ, hb1, hw1, hlt1_t, n1, n2, n3, n4, n5, n6]) (U_skip ?_)
        refine U_seq ?_
        refine U_block ?_
        refine U_seq ?_
        obtain ⟨x1, kx1, hr1⟩ := bndO hr1
        obtain ⟨x2, kx2, hr1⟩ := bndO hr1
        refine U_drawQ hm [0, 0, 3, 7, 0, 0, 48, 112, 255] false 8 (by decide +kernel) (by decide) ?_
        simp only [SQ, ty64, ty9, iia_sim (f := eStr) ty64 rfl ty9 kx1 rfl, row_sim (f := eStr) kx1, iia_sim (f := eStr) ty64 rfl ty9 kx2 rfl, row_sim (f := eStr) kx2, hb1, hw1, hlt1_t, n1, n2, n3, n4, n5, n6]
        refine hold_intro ?_
        rcases Bool.eq_false_or_eq_true (decide (x1 ≠ x2)) with hb2 | hb2
        ·
          rw [if_pos hb2] at hr1
          refine U_condT (by simp only [SQ, hb1, hw1, hlt1_t, hb2, n1, n2, n3, n4, n5, n6]) ?_
          refine U_seq ?_
          refine U_fr 26 [] rfl rfl rfl ?_
          refine U_reg ?_
          simp only [SQ, hb1, hw1, hlt1_t, hb2, n1, n2, n3, n4, n5, n6]
          refine hold_intro ?_
          refine U_ret ?_
          replace hr1 := Option.some.inj hr1
          subst hr1
          replace hl2 : u1 = .r _ := hl2
          subst hl2
          replace h := outE_r h
          replace h := Option.some.inj h
          subst h
          refine ⟨.bool false, by simp only [ires, iress, Try.results107, SQ, List.toList_toArray, hb1, hw1, hlt1_t, hb2, n1, n2, n3, n4, n5, n6], ?_⟩
          exact .cl (closed_bool _)
        ·
          rw [if_neg (by rw [hb2]; decide)] at hr1
          refine U_condF (by simp only [SQ, hb1, hw1, hlt1_t, hb2, n1, n2, n3, n4, n5, n6]) ?_
          refine U_skip ?_
          refine U_reg ?_
          simp only [SQ, hb1, hw1, hlt1_t, hb2, n1, n2, n3, n4, n5, n6]
          refine hold_intro ?_
          replace hr1 := Option.some.inj hr1
          subst hr1
          refine ⟨i1 + 1, ?_, hl2, Int.le_add_one hl1, ⟨rfl, rfl, by first | rfl | simp only [SQ, hb1, hw1, hlt1_t, hb2, n1, n2, n3, n4, n5, n6]⟩, s1⟩
          show ((av_1.length : Int) - (i1 + 1)).toNat < ((av_1.length : Int) - i1).toNat; omega
      ·
        have hlt1_e := forE_end hf1 hlt1
        have hlt1_t : decide (i1 < (av_1.length : Int)) = false := decide_eq_false hlt1
        refine U_seq (U_seq ?_)
        refine U_reg ?_
        simp only [SQ, len_sim ty64 rfl, hb1, hlt1_t, n1, n2, n3, n4, n5, n6]
        refine hold_intro ?_
        refine U_condF (by simp only [SQ, hb1, hlt1_t, n1, n2, n3, n4, n5, n6]) (U_exit rfl ?_)
        exact ⟨hlt1_e, ⟨rfl, rfl, by first | rfl | simp only [SQ, hb1, hlt1_t, n1, n2, n3, n4, n5, n6]⟩, s1⟩
    ·
      rintro a2 H2 ⟨rfl, f2, s2⟩
      replace h := outE_n h
      refine U_fi f2 ?_
      refine U_seq ?_
      refine U_reg ?_
      simp only [SQ, hb1, n1, n2, n3, n4, n5, n6]
      refine hold_intro ?_
      refine U_ret ?_
      replace h := Option.some.inj h
      subst h
      refine ⟨.bool true, by simp only [ires, iress, Try.results107, SQ, List.toList_toArray, hb1, n1, n2, n3, n4, n5, n6], ?_⟩
      exact .cl (closed_bool _)

theorem w_dyehouseref12_Instr {fuel : Nat} {av_1 : Ins} {b_1 : Ins} {r0_ : Bool} (h : p_dyehouseref12_Instr fuel av_1 b_1 = some r0_) : Pure1 Try.prog 48 [.agg (eIns av_1), .agg (eIns b_1)] (.bool r0_) := by
  refine Pure1_S (all_cl (cl_agg (cl_eIns _)) (all_cl (cl_agg (cl_eIns _)) all_cl0)) fun F H s0 => ?_
  refine U_call 0 Try.func48 rfl (by kernel_rfl) (by simp [Try.ntmps48]) ?_
  rw [Try.ntmps48]
  refine U_fr 52 [(0, .agg (eIns av_1)), (1, .agg (eIns b_1))] rfl rfl rfl ?_
  unfold p_dyehouseref12_Instr at h
  refine U_seq ?_
  refine U_reg ?_
  simp only [SQ, ty66, sIns, n1, n2, n3, n4, n5, n6]
  refine N_box s0 rfl fun d1 H1 s1 => ?_
  simp only [SQ, ty66, sIns, n1, n2, n3, n4, n5, n6]
  refine N_box s1 rfl fun d2 H2 s2 => ?_
  simp only [SQ, n1, n2, n3, n4, n5, n6]
  refine hold_intro ?_
  refine U_seq ?_
  refine U_fr 52 [(2, .pb d1 0 0), (3, .pb d2 0 0), (4, .bool false)] rfl rfl rfl ?_
  obtain ⟨b1, kb1, h⟩ := bndO h
  obtain ⟨b2, kb2, h⟩ := bndO h
  obtain ⟨b3, kb3, h⟩ := bndO h
  refine U_cut (fun a' H' => Fi a' 52 [(4, .bool b3)] ∧ H2 = H') ?_ ?_
  · refine U_reg ?_
    rcases Bool.eq_false_or_eq_true (decide (av_1.op = b_1.op)) with hb1 | hb1
    ·
      rcases Bool.eq_false_or_eq_true (decide (av_1.dst = b_1.dst)) with hb2 | hb2
      ·
        have hx1 : ((decide (av_1.op = b_1.op)) && (decide (av_1.dst = b_1.dst))) = true := by simp only [SQ, hb1, hb2]
        rw [if_pos hx1] at kb1
        obtain ⟨r1, kr1, kb1⟩ := bndO kb1
        have hq1 := (Option.some.inj kb1).symm
        rcases Bool.eq_false_or_eq_true (r1) with hb3 | hb3
        ·
          rcases Bool.eq_false_or_eq_true (decide (av_1.name = b_1.name)) with hb4 | hb4
          ·
            rcases Bool.eq_false_or_eq_true (decide (av_1.off = b_1.off)) with hb5 | hb5
            ·
              have hx2 : ((b1 && (decide (av_1.name = b_1.name))) && (decide (av_1.off = b_1.off))) = true := by simp only [SQ, hb1, hb2, hq1, hb3, hb4, hb5]
              rw [if_pos hx2] at kb2
              obtain ⟨r2, kr2, kb2⟩ := bndO kb2
              have hq2 := (Option.some.inj kb2).symm
              rcases Bool.eq_false_or_eq_true (r2) with hb6 | hb6
              ·
                have hx3 : b2 = true := by simp only [SQ, hb1, hb2, hq1, hb3, hb4, hb5, hq2, hb6]
                rw [if_pos hx3] at kb3
                obtain ⟨r3, kr3, kb3⟩ := bndO kb3
                have hq3 := (Option.some.inj kb3).symm
                simp only [SQ, ty66, ty3, s2.b 1 rfl, sIns, s2.b 0 rfl, ty58, sOpd, qOpd, ty23, hb1, hb2, hq1, hb3, hb4, hb5, hq2, hb6, hq3, n1, n2, n3, n4, n5, n6]
                refine callP (w_dyehouseref12_same kr1) ?_
                simp only [SQ, ty66, ty9, s2.b 1 rfl, sIns, s2.b 0 rfl, ty3, ty64, hb1, hb2, hq1, hb3, hb4, hb5, hq2, hb6, hq3, n1, n2, n3, n4, n5, n6]
                refine callP (w_dyehouseref12_Texts kr2) ?_
                simp only [SQ, ty66, ty37, s2.b 1 rfl, sIns, s2.b 0 rfl, hb1, hb2, hq1, hb3, hb4, hb5, hq2, hb6, hq3, n1, n2, n3, n4, n5, n6]
                refine callP (w_dyehouseref12_Ints kr3) ?_
                simp only [SQ, hb1, hb2, hq1, hb3, hb4, hb5, hq2, hb6, hq3, n1, n2, n3, n4, n5, n6]
                refine hold_intro ?_
                exact ⟨⟨rfl, rfl, by first | rfl | simp only [SQ, hb1, hb2, hq1, hb3, hb4, hb5, hq2, hb6, hq3, n1, n2, n3, n4, n5, n6]⟩, rfl⟩
              ·
                have hx4 : b2 = false := by simp only [SQ, hb1, hb2, hq1, hb3, hb4, hb5, hq2, hb6]
                rw [if_neg (by rw [hx4]; decide)] at kb3
                have hq4 := (Option.some.inj kb3).symm
                simp only [SQ, ty66, ty3, s2.b 1 rfl, sIns, s2.b 0 rfl, ty58, sOpd, qOpd, ty23, hb1, hb2, hq1, hb3, hb4, hb5, hq2, hb6, hq4, n1, n2, n3, n4, n5, n6]
                refine callP (w_dyehouseref12_same kr1) ?_
                simp only [SQ, ty66, ty9, s2.b 1 rfl, sIns, s2.b 0 rfl, ty3, ty64, hb1, hb2, hq1, hb3, hb4, hb5, hq2, hb6, hq4, n1, n2, n3, n4, n5, n6]
                refine callP (w_dyehouseref12_Texts kr2) ?_
                simp only [SQ, hb1, hb2, hq1, hb3, hb4, hb5, hq2, hb6, hq4, n1, n2, n3, n4, n5, n6]
                refine hold_intro ?_
                exact ⟨⟨rfl, rfl, by first | rfl | simp only [SQ, hb1, hb2, hq1, hb3, hb4, hb5, hq2, hb6, hq4, n1, n2, n3, n4, n5, n6]⟩, rfl⟩
            ·
              have hx5 : ((b1 && (decide (av_1.name = b_1.name))) && (decide (av_1.off = b_1.off))) = false := by simp only [SQ, hb1, hb2, hq1, hb3, hb4, hb5]
              rw [if_neg (by rw [hx5]; decide)] at kb2
              have hq5 := (Option.some.inj kb2).symm
              have hx6 : b2 = false := by simp only [SQ, hb1, hb2, hq1, hb3, hb4, hb5, hq5]
              rw [if_neg (by rw [hx6]; decide)] at kb3
              have hq6 := (Option.some.inj kb3).symm
              simp only [SQ, ty66, ty3, s2.b 1 rfl, sIns, s2.b 0 rfl, ty58, sOpd, qOpd, ty23, hb1, hb2, hq1, hb3, hb4, hb5, hq5, hq6, n1, n2, n3, n4, n5, n6]
              refine callP (w_dyehouseref12_same kr1) ?_
              simp only [SQ, ty66, ty9, s2.b 1 rfl, sIns, s2.b 0 rfl, ty3, hb1, hb2, hq1, hb3, hb4, hb5, hq5, hq6, n1, n2, n3, n4, n5, n6]
              refine hold_intro ?_
              exact ⟨⟨rfl, rfl, by first | rfl | simp only [SQ, hb1, hb2, hq1, hb3, hb4, hb5, hq5, hq6, n1, n2, n3, n4, n5, n6]⟩, rfl⟩
          ·
            have hx7 : ((b1 && (decide (av_1.name = b_1.name))) && (decide (av_1.off = b_1.off))) = false := by simp only [SQ, hb1, hb2, hq1, hb3, hb4]
            rw [if_neg (by rw [hx7]; decide)] at kb2
            have hq7 := (Option.some.inj kb2).symm
            have hx8 : b2 = false := by simp only [SQ, hb1, hb2, hq1, hb3, hb4, hq7]
            rw [if_neg (by rw [hx8]; decide)] at kb3
            have hq8 := (Option.some.inj kb3).symm
            simp only [SQ, ty66, ty3, s2.b 1 rfl, sIns, s2.b 0 rfl, ty58, sOpd, qOpd, ty23, hb1, hb2, hq1, hb3, hb4, hq7, hq8, n1, n2, n3, n4, n5, n6]
            refine callP (w_dyehouseref12_same kr1) ?_
            simp only [SQ, ty66, ty9, s2.b 1 rfl, sIns, s2.b 0 rfl, hb1, hb2, hq1, hb3, hb4, hq7, hq8, n1, n2, n3, n4, n5, n6]
            refine hold_intro ?_
            exact ⟨⟨rfl, rfl, by first | rfl | simp only [SQ, hb1, hb2, hq1, hb3, hb4, hq7, hq8, n1, n2, n3, n4, n5, n6]⟩, rfl⟩
        ·
          have hx9 : ((b1 && (decide (av_1.name = b_1.name))) && (decide (av_1.off = b_1.off))) = false := by simp only [SQ, hb1, hb2, hq1, hb3]
          rw [if_neg (by rw [hx9]; decide)] at kb2
          have hq9 := (Option.some.inj kb2).symm
          have hx10 : b2 = false := by simp only [SQ, hb1, hb2, hq1, hb3, hq9]
          rw [if_neg (by rw [hx10]; decide)] at kb3
          have hq10 := (Option.some.inj kb3).symm
          simp only [SQ, ty66, ty3, s2.b 1 rfl, sIns, s2.b 0 rfl, ty58, sOpd, qOpd, ty23, hb1, hb2, hq1, hb3, hq9, hq10, n1, n2, n3, n4, n5, n6]
          refine callP (w_dyehouseref12_same kr1) ?_
          simp only [SQ, hb1, hb2, hq1, hb3, hq9, hq10, n1, n2, n3, n4, n5, n6]
          refine hold_intro ?_
          exact ⟨⟨rfl, rfl, by first | rfl | simp only [SQ, hb1, hb2, hq1, hb3, hq9, hq10, n1, n2, n3, n4, n5, n6]⟩, rfl⟩
      ·
        have hx11 : ((decide (av_1.op = b_1.op)) && (decide (av_1.dst = b_1.dst))) = false := by simp only [SQ, hb1, hb2]
        rw [if_neg (by rw [hx11]; decide)] at kb1
        have hq11 := (Option.some.inj kb1).symm
        have hx12 : ((b1 && (decide (av_1.name = b_1.name))) && (decide (av_1.off = b_1.off))) = false := by simp only [SQ, hb1, hb2, hq11]
        rw [if_neg (by rw [hx12]; decide)] at kb2
        have hq12 := (Option.some.inj kb2).symm
        have hx13 : b2 = false := by simp only [SQ, hb1, hb2, hq11, hq12]
        rw [if_neg (by rw [hx13]; decide)] at kb3
        have hq13 := (Option.some.inj kb3).symm
        simp only [SQ, ty66, ty3, s2.b 1 rfl, sIns, s2.b 0 rfl, ty58, sOpd, qOpd, hb1, hb2, hq11, hq12, hq13, n1, n2, n3, n4, n5, n6]
        refine hold_intro ?_
        exact ⟨⟨rfl, rfl, by first | rfl | simp only [SQ, hb1, hb2, hq11, hq12, hq13, n1, n2, n3, n4, n5, n6]⟩, rfl⟩
    ·
      have hx14 : ((decide (av_1.op = b_1.op)) && (decide (av_1.dst = b_1.dst))) = false := by simp only [SQ, hb1]
      rw [if_neg (by rw [hx14]; decide)] at kb1
      have hq14 := (Option.some.inj kb1).symm
      have hx15 : ((b1 && (decide (av_1.name = b_1.name))) && (decide (av_1.off = b_1.off))) = false := by simp only [SQ, hb1, hq14]
      rw [if_neg (by rw [hx15]; decide)] at kb2
      have hq15 := (Option.some.inj kb2).symm
      have hx16 : b2 = false := by simp only [SQ, hb1, hq14, hq15]
      rw [if_neg (by rw [hx16]; decide)] at kb3
      have hq16 := (Option.some.inj kb3).symm
      simp only [SQ, ty66, ty3, s2.b 1 rfl, sIns, s2.b 0 rfl, hb1, hq14, hq15, hq16, n1, n2, n3, n4, n5, n6]
      refine hold_intro ?_
      exact ⟨⟨rfl, rfl, by first | rfl | simp only [SQ, hb1, hq14, hq15, hq16, n1, n2, n3, n4, n5, n6]⟩, rfl⟩
  · rintro a1 _ ⟨f1, rfl⟩
    refine U_fi f1 ?_
    refine U_ret ?_
    replace h := Option.some.inj h
    subst h
    refine ⟨.bool b3, by simp only [ires, iress, Try.results48, SQ, List.toList_toArray, n1, n2, n3, n4, n5, n6], ?_⟩
    exact .cl (closed_bool _)

theorem w_dyehouseref12_Code {fuel : Nat} {av_1 : List Ins} {b_1 : List Ins} {r0_ : Bool} (h : p_dyehouseref12_Code fuel av_1 b_1 = some r0_) : Pure1 Try.prog 100 [.sim (av_1.map eIns) false, .sim (b_1.map eIns) false] (.bool r0_) := by
  refine Pure1_S (all_cl (cl_map cl_eIns av_1) (all_cl (cl_map cl_eIns b_1) all_cl0)) fun F H s0 => ?_
  refine U_call 0 Try.func100 rfl (by kernel_rfl) (by simp [Try.ntmps100]) ?_
  rw [Try.ntmps100]
  refine U_fr 27 [(0, .sim (av_1.map eIns) false), (1, .sim (b_1.map eIns) false)] rfl rfl rfl ?_
  unfold p_dyehouseref12_Code at h
  refine U_seq ?_
  refine U_reg ?_
  simp only [SQ, n1, n2, n3, n4, n5, n6]
  refine hold_intro ?_
  refine U_seq ?_
  refine U_seq ?_
  refine U_reg ?_
  simp only [SQ, len_sim ty61 rfl, n1, n2, n3, n4, n5, n6]
  refine hold_intro ?_
  rcases Bool.eq_false_or_eq_true (decide ((av_1.length : Int) ≠ (b_1.length : Int))) with hb1 | hb1
  ·
    rw [if_pos hb1] at h
    refine U_condT (by simp only [SQ, hb1, n1, n2, n3, n4, n5, n6]) ?_
    refine U_seq ?_
    refine U_reg ?_
    simp only [SQ, hb1, n1, n2, n3, n4, n5, n6]
    refine hold_intro ?_
    refine U_ret ?_
    replace h := Option.some.inj h
    subst h
    refine ⟨.bool false, by simp only [ires, iress, Try.results100, SQ, List.toList_toArray, hb1, n1, n2, n3, n4, n5, n6], ?_⟩
    exact .cl (closed_bool _)
  ·
    rw [if_neg (by rw [hb1]; decide)] at h
    refine U_condF (by simp only [SQ, hb1, n1, n2, n3, n4, n5, n6]) ?_
    refine U_skip ?_
    refine U_seq ?_
    refine U_seq ?_
    refine U_reg ?_
    simp only [SQ, hb1, n1, n2, n3, n4, n5, n6]
    refine hold_intro ?_
    refine U_fr 27 [(0, .sim (av_1.map eIns) false), (1, .sim (b_1.map eIns) false), (5, .int .i64 0)] rfl rfl rfl ?_
    obtain ⟨u1, he1, h⟩ := bndE h
    obtain ⟨hhi1, hlo1, he1⟩ := toE_facts he1
    refine U_cut (fun a' H' => u1 = .n () ∧ Fi a' 27 [] ∧ HS F [] H') (U_block (U_loop (fun z_ a' H' => match z_ with | i1 => forE ((av_1.length : Int) - i1).toNat i1 (fun i _ => p_dyehouseref12_Code_b1 fuel av_1 b_1 i) () = some u1 ∧ 0 ≤ i1 ∧ Fi a' 27 [(0, .sim (av_1.map eIns) false), (1, .sim (b_1.map eIns) false), (5, .int .i64 i1)] ∧ HS F [] H' : Int → Fr → Heap → Prop) (fun z_ : Int => ((av_1.length : Int) - z_).toNat) 0 ?_ ?_)) ?_
    · exact ⟨he1, Int.le_refl _, ⟨rfl, rfl, by first | rfl | simp only [SQ, hb1, n1, n2, n3, n4, n5, n6]⟩, s0⟩
    ·
      rintro i1 a1 H1 ⟨hf1, hl1, f1, s1⟩
      refine U_fi f1 ?_
      by_cases hlt1 : i1 < (av_1.length : Int)
      ·
        obtain ⟨u2, hr1, hl2⟩ := forE_step hf1 hlt1
        replace hr1 : p_dyehouseref12_Code_b1 fuel av_1 b_1 i1 = some u2 := hr1
        unfold p_dyehouseref12_Code_b1 at hr1
        have hw1 := wrap_next hlt1 hhi1 hlo1 hl1
        have hlt1_t : decide (i1 < (av_1.length : Int)) = true := decide_eq_true hlt1
        refine U_seq (U_seq ?_)
        refine U_reg ?_
        simp only [SQ, len_sim ty61 rfl, hb1, hw1, hlt1_t, n1, n2, n3, n4, n5, n6]
        refine hold_intro ?_
        refine U_condT (by simp only [SQ, hb1, hw1, hlt1_t, n1, n2, n3, n4, n5, n6]) (U_skip ?_)
        refine U_seq ?_
        refine U_block ?_
        refine U_seq ?_
        obtain ⟨x1, kx1, hr1⟩ := bndO hr1
        obtain ⟨x2, kx2, hr1⟩ := bndO hr1
        obtain ⟨r1, kr1, hr1⟩ := bndO hr1
        refine U_drawQ hm [0, 0, 3, 7, 0, 0, 48, 112, 255, 511] false 8 (by decide +kernel) (by decide) ?_
        simp only [SQ, ty61, ty66, iia_sim (f := eIns) ty61 rfl ty66 kx1 rfl, row_sim (f := eIns) kx1, sIns, iia_sim (f := eIns) ty61 rfl ty66 kx2 rfl, row_sim (f := eIns) kx2, hb1, hw1, hlt1_t, n1, n2, n3, n4, n5, n6]
        refine callP (w_dyehouseref12_Instr kr1) ?_
        simp only [SQ, hb1, hw1, hlt1_t, n1, n2, n3, n4, n5, n6]
        refine hold_intro ?_
        rcases Bool.eq_false_or_eq_true ((!r1)) with hb2 | hb2
        ·
          rw [if_pos hb2] at hr1
          refine U_condT (by simp only [SQ, hb1, hw1, hlt1_t, hb2, n1, n2, n3, n4, n5, n6]) ?_
          refine U_seq ?_
          refine U_fr 27 [] rfl rfl rfl ?_
          refine U_reg ?_
          simp only [SQ, hb1, hw1, hlt1_t, hb2, n1, n2, n3, n4, n5, n6]
          refine hold_intro ?_
          refine U_ret ?_
          replace hr1 := Option.some.inj hr1
          subst hr1
          replace hl2 : u1 = .r _ := hl2
          subst hl2
          replace h := outE_r h
          replace h := Option.some.inj h
          subst h
          refine ⟨.bool false, by simp only [ires, iress, Try.results100, SQ, List.toList_toArray, hb1, hw1, hlt1_t, hb2, n1, n2, n3, n4, n5, n6], ?_⟩
          exact .cl (closed_bool _)
        ·
          rw [if_neg (by rw [hb2]; decide)] at hr1
          refine U_condF (by simp only [SQ, hb1, hw1, hlt1_t, hb2, n1, n2, n3, n4, n5, n6]) ?_
          refine U_skip ?_
          refine U_reg ?_
          simp only [SQ, hb1, hw1, hlt1_t, hb2, n1, n2, n3, n4, n5, n6]
          refine hold_intro ?_
          replace hr1 := Option.some.inj hr1
          subst hr1
          refine ⟨i1 + 1, ?_, hl2, Int.le_add_one hl1, ⟨rfl, rfl, by first | rfl | simp only [SQ, hb1, hw1, hlt1_t, hb2, n1, n2, n3, n4, n5, n6]⟩, s1⟩
          show ((av_1.length : Int) - (i1 + 1)).toNat < ((av_1.length : Int) - i1).toNat; omega
      ·
        have hlt1_e := forE_end hf1 hlt1
        have hlt1_t : decide (i1 < (av_1.length : Int)) = false := decide_eq_false hlt1
        refine U_seq (U_seq ?_)
        refine U_reg ?_
        simp only [SQ, len_sim ty61 rfl, hb1, hlt1_t, n1, n2, n3, n4, n5, n6]
        refine hold_intro ?_
        refine U_condF (by simp only [SQ, hb1, hlt1_t, n1, n2, n3, n4, n5, n6]) (U_exit rfl ?_)
        exact ⟨hlt1_e, ⟨rfl, rfl, by first | rfl | simp only [SQ, hb1, hlt1_t, n1, n2, n3, n4, n5, n6]⟩, s1⟩
    ·
      rintro a2 H2 ⟨rfl, f2, s2⟩
      replace h := outE_n h
      refine U_fi f2 ?_
      refine U_seq ?_
      refine U_reg ?_
      simp only [SQ, hb1, n1, n2, n3, n4, n5, n6]
      refine hold_intro ?_
      refine U_ret ?_
      replace h := Option.some.inj h
      subst h
      refine ⟨.bool true, by simp only [ires, iress, Try.results100, SQ, List.toList_toArray, hb1, n1, n2, n3, n4, n5, n6], ?_⟩
      exact .cl (closed_bool _)

theorem w_dyehouseref12_Same {fuel : Nat} {av_1 : Fnc} {b_1 : Fnc} {r0_ : Bool} (h : p_dyehouseref12_Same fuel av_1 b_1 = some r0_) : Pure1 Try.prog 34 [.agg (eFnc av_1), .agg (eFnc b_1)] (.bool r0_) := by
  refine Pure1_S (all_cl (cl_agg (cl_eFnc _)) (all_cl (cl_agg (cl_eFnc _)) all_cl0)) fun F H s0 => ?_
  refine U_call 0 Try.func34 rfl (by kernel_rfl) (by simp [Try.ntmps34]) ?_
  rw [Try.ntmps34]
  refine U_fr 110 [(0, .agg (eFnc av_1)), (1, .agg (eFnc b_1))] rfl rfl rfl ?_
  unfold p_dyehouseref12_Same at h
  refine U_seq ?_
  refine U_reg ?_
  simp only [SQ, ty26, sFnc, n1, n2, n3, n4, n5, n6]
  refine N_box s0 rfl fun d1 H1 s1 => ?_
  simp only [SQ, ty26, sFnc, n1, n2, n3, n4, n5, n6]
  refine N_box s1 rfl fun d2 H2 s2 => ?_
  simp only [SQ, n1, n2, n3, n4, n5, n6]
  refine hold_intro ?_
  refine U_seq ?_
  refine U_seq ?_
  refine U_fr 110 [(2, .pb d1 0 0), (3, .pb d2 0 0)] rfl rfl rfl ?_
  obtain ⟨b1, kb1, h⟩ := bndO h
  refine U_cut (fun a' H' => Fi a' 110 [(2, .pb d1 0 0), (3, .pb d2 0 0), (46, .bool (b1 || (decide ((av_1.blocks.length : Int) ≠ (b_1.blocks.length : Int)))))] ∧ H2 = H') ?_ ?_
  · refine U_reg ?_
    rcases Bool.eq_false_or_eq_true ((av_1.machine != b_1.machine)) with hb1 | hb1
    ·
      have hx1 : (((av_1.machine != b_1.machine) || (decide (av_1.name ≠ b_1.name))) || (decide ((av_1.regs.length : Int) ≠ (b_1.regs.length : Int)))) = true := by simp only [SQ, hb1]
      rw [if_pos hx1] at kb1
      have hq1 := (Option.some.inj kb1).symm
      simp only [SQ, ty26, ty4, s2.b 1 rfl, sFnc, s2.b 0 rfl, bin_bool (P := Try.prog) ty4 rfl, hb1, hq1, n1, n2, n3, n4, n5, n6]
      refine hold_intro ?_
      exact ⟨⟨rfl, rfl, by first | rfl | simp only [SQ, hb1, hq1, n1, n2, n3, n4, n5, n6]⟩, rfl⟩
    ·
      rcases Bool.eq_false_or_eq_true (decide (av_1.name ≠ b_1.name)) with hb2 | hb2
      ·
        have hx2 : (((av_1.machine != b_1.machine) || (decide (av_1.name ≠ b_1.name))) || (decide ((av_1.regs.length : Int) ≠ (b_1.regs.length : Int)))) = true := by simp only [SQ, hb1, hb2]
        rw [if_pos hx2] at kb1
        have hq2 := (Option.some.inj kb1).symm
        simp only [SQ, ty26, ty4, s2.b 1 rfl, sFnc, s2.b 0 rfl, bin_bool (P := Try.prog) ty4 rfl, ty9, hb1, hb2, hq2, n1, n2, n3, n4, n5, n6]
        refine hold_intro ?_
        exact ⟨⟨rfl, rfl, by first | rfl | simp only [SQ, hb1, hb2, hq2, n1, n2, n3, n4, n5, n6]⟩, rfl⟩
      ·
        rcases Bool.eq_false_or_eq_true (decide ((av_1.regs.length : Int) ≠ (b_1.regs.length : Int))) with hb3 | hb3
        ·
          have hx3 : (((av_1.machine != b_1.machine) || (decide (av_1.name ≠ b_1.name))) || (decide ((av_1.regs.length : Int) ≠ (b_1.regs.length : Int)))) = true := by simp only [SQ, hb1, hb2, hb3]
          rw [if_pos hx3] at kb1
          have hq3 := (Option.some.inj kb1).symm
          simp only [SQ, ty26, ty4, s2.b 1 rfl, sFnc, s2.b 0 rfl, bin_bool (P := Try.prog) ty4 rfl, ty9, ty22, len_sim ty22 rfl, hb1, hb2, hb3, hq3, n1, n2, n3, n4, n5, n6]
          refine hold_intro ?_
          exact ⟨⟨rfl, rfl, by first | rfl | simp only [SQ, hb1, hb2, hb3, hq3, n1, n2, n3, n4, n5, n6]⟩, rfl⟩
        ·
          have hx4 : (((av_1.machine != b_1.machine) || (decide (av_1.name ≠ b_1.name))) || (decide ((av_1.regs.length : Int) ≠ (b_1.regs.length : Int)))) = false := by simp only [SQ, hb1, hb2, hb3]
          rw [if_neg (by rw [hx4]; decide)] at kb1
          obtain ⟨r1, kr1, kb1⟩ := bndO kb1
          have hq4 := (Option.some.inj kb1).symm
          rcases Bool.eq_false_or_eq_true ((!r1)) with hb4 | hb4
          ·
            simp only [SQ, ty26, ty4, s2.b 1 rfl, sFnc, s2.b 0 rfl, bin_bool (P := Try.prog) ty4 rfl, ty9, ty22, len_sim ty22 rfl, ty23, hb1, hb2, hb3, hq4, hb4, n1, n2, n3, n4, n5, n6]
            refine callP (w_dyehouseref12_same kr1) ?_
            simp only [SQ, hb1, hb2, hb3, hq4, hb4, n1, n2, n3, n4, n5, n6]
            refine hold_intro ?_
            exact ⟨⟨rfl, rfl, by first | rfl | simp only [SQ, hb1, hb2, hb3, hq4, hb4, n1, n2, n3, n4, n5, n6]⟩, rfl⟩
          ·
            simp only [SQ, ty26, ty4, s2.b 1 rfl, sFnc, s2.b 0 rfl, bin_bool (P := Try.prog) ty4 rfl, ty9, ty22, len_sim ty22 rfl, ty23, hb1, hb2, hb3, hq4, hb4, n1, n2, n3, n4, n5, n6]
            refine callP (w_dyehouseref12_same kr1) ?_
            simp only [SQ, ty26, ty24, s2.b 1 rfl, sFnc, len_sim ty24 rfl, s2.b 0 rfl, hb1, hb2, hb3, hq4, hb4, n1, n2, n3, n4, n5, n6]
            refine hold_intro ?_
            exact ⟨⟨rfl, rfl, by first | rfl | simp only [SQ, hb1, hb2, hb3, hq4, hb4, n1, n2, n3, n4, n5, n6]⟩, rfl⟩
  · rintro a1 _ ⟨f1, rfl⟩
    refine U_fi f1 ?_
    rcases Bool.eq_false_or_eq_true ((b1 || (decide ((av_1.blocks.length : Int) ≠ (b_1.blocks.length : Int))))) with hb5 | hb5
    ·
      rw [if_pos hb5] at h
      refine U_condT (by simp only [SQ, hb5, n1, n2, n3, n4, n5, n6]) ?_
      refine U_seq ?_
      refine U_fr 110 [] rfl rfl rfl ?_
      refine U_reg ?_
      simp only [SQ, hb5, n1, n2, n3, n4, n5, n6]
      refine hold_intro ?_
      refine U_ret ?_
      replace h := Option.some.inj h
      subst h
      refine ⟨.bool false, by simp only [ires, iress, Try.results34, SQ, List.toList_toArray, hb5, n1, n2, n3, n4, n5, n6], ?_⟩
      exact .cl (closed_bool _)
    ·
      rw [if_neg (by rw [hb5]; decide)] at h
      refine U_condF (by simp only [SQ, hb5, n1, n2, n3, n4, n5, n6]) ?_
      refine U_skip ?_
      refine U_seq ?_
      refine U_seq ?_
      refine U_reg ?_
      simp only [SQ, hb5, n1, n2, n3, n4, n5, n6]
      refine hold_intro ?_
      refine U_fr 110 [(2, .pb d1 0 0), (3, .pb d2 0 0), (5, .int .i64 0)] rfl rfl rfl ?_
      obtain ⟨u1, he1, h⟩ := bndE h
      obtain ⟨hhi1, hlo1, he1⟩ := toE_facts he1
      refine U_cut (fun a' H' => u1 = .n () ∧ Fi a' 110 [(2, .pb d1 0 0), (3, .pb d2 0 0)] ∧ HS F [pt d1 ⟨5, [eFnc av_1]⟩, pt d2 ⟨5, [eFnc b_1]⟩] H') (U_block (U_loop (fun z_ a' H' => match z_ with | i1 => forE ((av_1.regs.length : Int) - i1).toNat i1 (fun i _ => p_dyehouseref12_Same_b1 fuel av_1 b_1 i) () = some u1 ∧ 0 ≤ i1 ∧ Fi a' 110 [(2, .pb d1 0 0), (3, .pb d2 0 0), (5, .int .i64 i1)] ∧ HS F [pt d1 ⟨5, [eFnc av_1]⟩, pt d2 ⟨5, [eFnc b_1]⟩] H' : Int → Fr → Heap → Prop) (fun z_ : Int => ((av_1.regs.length : Int) - z_).toNat) 0 ?_ ?_)) ?_
      · exact ⟨he1, Int.le_refl _, ⟨rfl, rfl, by first | rfl | simp only [SQ, hb5, n1, n2, n3, n4, n5, n6]⟩, s2.sel [1, 0] (by decide)⟩
      ·
        rintro i1 a2 H4 ⟨hf1, hl1, f2, s4⟩
        refine U_fi f2 ?_
        by_cases hlt1 : i1 < (av_1.regs.length : Int)
        ·
          obtain ⟨u2, hr1, hl2⟩ := forE_step hf1 hlt1
          replace hr1 : p_dyehouseref12_Same_b1 fuel av_1 b_1 i1 = some u2 := hr1
          unfold p_dyehouseref12_Same_b1 at hr1
          have hw1 := wrap_next hlt1 hhi1 hlo1 hl1
          have hlt1_t : decide (i1 < (av_1.regs.length : Int)) = true := decide_eq_true hlt1
          refine U_seq (U_seq ?_)
          refine U_reg ?_
          simp only [SQ, ty26, ty22, s4.b 0 rfl, sFnc, len_sim ty22 rfl, hb5, hw1, hlt1_t, n1, n2, n3, n4, n5, n6]
          refine hold_intro ?_
          refine U_condT (by simp only [SQ, hb5, hw1, hlt1_t, n1, n2, n3, n4, n5, n6]) (U_skip ?_)
          refine U_seq ?_
          refine U_block ?_
          refine U_seq ?_
          obtain ⟨x1, kx1, hr1⟩ := bndO hr1
          obtain ⟨x2, kx2, hr1⟩ := bndO hr1
          refine U_drawQ hm [0, 1, 0, 7, 15, 0, 32, 0, 224, 480, 1023] false 10 (by decide +kernel) (by decide) ?_
          simp only [SQ, ty26, ty22, s4.b 0 rfl, sFnc, ty84, iia_sim (f := eRg) ty22 rfl ty84 kx1 rfl, row_sim (f := eRg) kx1, sRg, s4.b 1 rfl, iia_sim (f := eRg) ty22 rfl ty84 kx2 rfl, row_sim (f := eRg) kx2, qRg, hb5, hw1, hlt1_t, n1, n2, n3, n4, n5, n6]
          refine hold_intro ?_
          rcases Bool.eq_false_or_eq_true ((!decide (x1 = x2))) with hb6 | hb6
          ·
            rw [if_pos hb6] at hr1
            refine U_condT (by simp only [SQ, hb5, hw1, hlt1_t, hb6, n1, n2, n3, n4, n5, n6]) ?_
            refine U_seq ?_
            refine U_fr 110 [] rfl rfl rfl ?_
            refine U_reg ?_
            simp only [SQ, hb5, hw1, hlt1_t, hb6, n1, n2, n3, n4, n5, n6]
            refine hold_intro ?_
            refine U_ret ?_
            replace hr1 := Option.some.inj hr1
            subst hr1
            replace hl2 : u1 = .r _ := hl2
            subst hl2
            replace h := outE_r h
            replace h := Option.some.inj h
            subst h
            refine ⟨.bool false, by simp only [ires, iress, Try.results34, SQ, List.toList_toArray, hb5, hw1, hlt1_t, hb6, n1, n2, n3, n4, n5, n6], ?_⟩
            exact .cl (closed_bool _)
          ·
            rw [if_neg (by rw [hb6]; decide)] at hr1
            refine U_condF (by simp only [SQ, hb5, hw1, hlt1_t, hb6, n1, n2, n3, n4, n5, n6]) ?_
            refine U_skip ?_
            refine U_reg ?_
            simp only [SQ, hb5, hw1, hlt1_t, hb6, n1, n2, n3, n4, n5, n6]
            refine hold_intro ?_
            replace hr1 := Option.some.inj hr1
            subst hr1
            refine ⟨i1 + 1, ?_, hl2, Int.le_add_one hl1, ⟨rfl, rfl, by first | rfl | simp only [SQ, hb5, hw1, hlt1_t, hb6, n1, n2, n3, n4, n5, n6]⟩, s4⟩
            show ((av_1.regs.length : Int) - (i1 + 1)).toNat < ((av_1.regs.length : Int) - i1).toNat; omega
        ·
          have hlt1_e := forE_end hf1 hlt1
          have hlt1_t : decide (i1 < (av_1.regs.length : Int)) = false := decide_eq_false hlt1
          refine U_seq (U_seq ?_)
          refine U_reg ?_
          simp only [SQ, ty26, ty22, s4.b 0 rfl, sFnc, len_sim ty22 rfl, hb5, hlt1_t, n1, n2, n3, n4, n5, n6]
          refine hold_intro ?_
          refine U_condF (by simp only [SQ, hb5, hlt1_t, n1, n2, n3, n4, n5, n6]) (U_exit rfl ?_)
          exact ⟨hlt1_e, ⟨rfl, rfl, by first | rfl | simp only [SQ, hb5, hlt1_t, n1, n2, n3, n4, n5, n6]⟩, s4⟩
      ·
        rintro a3 H5 ⟨rfl, f3, s5⟩
        replace h := outE_n h
        refine U_fi f3 ?_
        refine U_seq ?_
        refine U_seq ?_
        refine U_reg ?_
        simp only [SQ, hb5, n1, n2, n3, n4, n5, n6]
        refine hold_intro ?_
        refine U_fr 110 [(2, .pb d1 0 0), (3, .pb d2 0 0), (6, .int .i64 0)] rfl rfl rfl ?_
        obtain ⟨u3, he2, h⟩ := bndE h
        obtain ⟨hhi2, hlo2, he2⟩ := toE_facts he2
        refine U_cut (fun a' H' => u3 = .n () ∧ Fi a' 110 [] ∧ HS F [pt d1 ⟨5, [eFnc av_1]⟩, pt d2 ⟨5, [eFnc b_1]⟩] H') (U_block (U_loop (fun z_ a' H' => match z_ with | i2 => forE ((av_1.blocks.length : Int) - i2).toNat i2 (fun i _ => p_dyehouseref12_Same_b2 fuel av_1 b_1 i) () = some u3 ∧ 0 ≤ i2 ∧ Fi a' 110 [(2, .pb d1 0 0), (3, .pb d2 0 0), (6, .int .i64 i2)] ∧ HS F [pt d1 ⟨5, [eFnc av_1]⟩, pt d2 ⟨5, [eFnc b_1]⟩] H' : Int → Fr → Heap → Prop) (fun z_ : Int => ((av_1.blocks.length : Int) - z_).toNat) 0 ?_ ?_)) ?_
        · exact ⟨he2, Int.le_refl _, ⟨rfl, rfl, by first | rfl | simp only [SQ, hb5, n1, n2, n3, n4, n5, n6]⟩, s5⟩
        ·
          rintro i2 a4 H6 ⟨hf2, hl3, f4, s6⟩
          refine U_fi f4 ?_
          by_cases hlt2 : i2 < (av_1.blocks.length : Int)
          ·
            obtain ⟨u4, hr2, hl4⟩ := forE_step hf2 hlt2
            replace hr2 : p_dyehouseref12_Same_b2 fuel av_1 b_1 i2 = some u4 := hr2
            unfold p_dyehouseref12_Same_b2 at hr2
            have hw2 := wrap_next hlt2 hhi2 hlo2 hl3
            have hlt2_t : decide (i2 < (av_1.blocks.length : Int)) = true := decide_eq_true hlt2
            refine U_seq (U_seq ?_)
            refine U_reg ?_
            simp only [SQ, ty26, ty24, s6.b 0 rfl, sFnc, len_sim ty24 rfl, hb5, hw2, hlt2_t, n1, n2, n3, n4, n5, n6]
            refine hold_intro ?_
            refine U_condT (by simp only [SQ, hb5, hw2, hlt2_t, n1, n2, n3, n4, n5, n6]) (U_skip ?_)
            refine U_seq ?_
            refine U_block ?_
            refine U_seq ?_
            obtain ⟨x3, kx3, hr2⟩ := bndO hr2
            obtain ⟨x4, kx4, hr2⟩ := bndO hr2
            refine U_drawQ hm [0, 1, 0, 7, 15, 0, 32, 0, 224, 480, 0, 0, 3103, 8191] true 13 (by decide +kernel) (by decide) ?_
            simp only [SQ, ty26, ty24, s6.b 0 rfl, sFnc, ty63, iia_sim (f := eBl) ty24 rfl ty63 kx3 rfl, row_sim (f := eBl) kx3, sBl, s6.b 1 rfl, iia_sim (f := eBl) ty24 rfl ty63 kx4 rfl, row_sim (f := eBl) kx4, hb5, hw2, hlt2_t, n1, n2, n3, n4, n5, n6]
            refine N_box s6 rfl fun d3 H7 s7 => ?_
            simp only [SQ, ty63, hb5, hw2, hlt2_t, n1, n2, n3, n4, n5, n6]
            refine N_box s7 rfl fun d4 H8 s8 => ?_
            simp only [SQ, ty63, sBl, splice_all', s8.b 1 rfl, hb5, hw2, hlt2_t, n1, n2, n3, n4, n5, n6]
            refine N_putS 1 s8 rfl (by simp only [SQ, s8.ne 0 1 rfl rfl (by decide), s8.ne 2 1 rfl rfl (by decide), s8.ne 3 1 rfl rfl (by decide), hb5, hw2, hlt2_t, n1, n2, n3, n4, n5, n6]) fun H9 s9 => ?_
            simp only [SQ, ty63, sBl, splice_all', s9.b 0 rfl, hb5, hw2, hlt2_t, n1, n2, n3, n4, n5, n6]
            refine N_put 0 s9 rfl fun H10 s10 => ?_
            simp only [SQ, hb5, hw2, hlt2_t, n1, n2, n3, n4, n5, n6]
            refine hold_intro ?_
            refine U_seq ?_
            refine U_fr 110 [(2, .pb d1 0 0), (3, .pb d2 0 0), (6, .int .i64 i2), (7, .pb d3 0 0), (8, .pb d4 0 0)] rfl rfl rfl ?_
            obtain ⟨b2, kb2, hr2⟩ := bndO hr2
            obtain ⟨b3, kb3, hr2⟩ := bndO hr2
            refine U_cut (fun a' H' => Fi a' 110 [(2, .pb d1 0 0), (3, .pb d2 0 0), (6, .int .i64 i2), (109, .bool b3)] ∧ H10 = H') ?_ ?_
            · refine U_reg ?_
              rcases Bool.eq_false_or_eq_true (decide (x3.label ≠ x4.label)) with hb7 | hb7
              ·
                have hx5 : ((decide (x3.label ≠ x4.label)) || (x3.edge != x4.edge)) = true := by simp only [SQ, hb7]
                rw [if_pos hx5] at kb2
                have hq5 := (Option.some.inj kb2).symm
                have hx6 : b2 = true := by simp only [SQ, hb7, hq5]
                rw [if_pos hx6] at kb3
                have hq6 := (Option.some.inj kb3).symm
                simp only [SQ, ty63, ty9, s10.b 1 rfl, sBl, s10.b 0 rfl, hb5, hw2, hlt2_t, hb7, hq5, hq6, n1, n2, n3, n4, n5, n6]
                refine hold_intro ?_
                exact ⟨⟨rfl, rfl, by first | rfl | simp only [SQ, hb5, hw2, hlt2_t, hb7, hq5, hq6, n1, n2, n3, n4, n5, n6]⟩, rfl⟩
              ·
                rcases Bool.eq_false_or_eq_true ((x3.edge != x4.edge)) with hb8 | hb8
                ·
                  have hx7 : ((decide (x3.label ≠ x4.label)) || (x3.edge != x4.edge)) = true := by simp only [SQ, hb7, hb8]
                  rw [if_pos hx7] at kb2
                  have hq7 := (Option.some.inj kb2).symm
                  have hx8 : b2 = true := by simp only [SQ, hb7, hb8, hq7]
                  rw [if_pos hx8] at kb3
                  have hq8 := (Option.some.inj kb3).symm
                  simp only [SQ, ty63, ty9, s10.b 1 rfl, sBl, s10.b 0 rfl, ty4, bin_bool (P := Try.prog) ty4 rfl, hb5, hw2, hlt2_t, hb7, hb8, hq7, hq8, n1, n2, n3, n4, n5, n6]
                  refine hold_intro ?_
                  exact ⟨⟨rfl, rfl, by first | rfl | simp only [SQ, hb5, hw2, hlt2_t, hb7, hb8, hq7, hq8, n1, n2, n3, n4, n5, n6]⟩, rfl⟩
                ·
                  have hx9 : ((decide (x3.label ≠ x4.label)) || (x3.edge != x4.edge)) = false := by simp only [SQ, hb7, hb8]
                  rw [if_neg (by rw [hx9]; decide)] at kb2
                  obtain ⟨r2, kr2, kb2⟩ := bndO kb2
                  have hq9 := (Option.some.inj kb2).symm
                  rcases Bool.eq_false_or_eq_true ((!r2)) with hb9 | hb9
                  ·
                    have hx10 : b2 = true := by simp only [SQ, hb7, hb8, hq9, hb9]
                    rw [if_pos hx10] at kb3
                    have hq10 := (Option.some.inj kb3).symm
                    simp only [SQ, ty63, ty9, s10.b 1 rfl, sBl, s10.b 0 rfl, ty4, bin_bool (P := Try.prog) ty4 rfl, ty23, hb5, hw2, hlt2_t, hb7, hb8, hq9, hb9, hq10, n1, n2, n3, n4, n5, n6]
                    refine callP (w_dyehouseref12_same kr2) ?_
                    simp only [SQ, hb5, hw2, hlt2_t, hb7, hb8, hq9, hb9, hq10, n1, n2, n3, n4, n5, n6]
                    refine hold_intro ?_
                    exact ⟨⟨rfl, rfl, by first | rfl | simp only [SQ, hb5, hw2, hlt2_t, hb7, hb8, hq9, hb9, hq10, n1, n2, n3, n4, n5, n6]⟩, rfl⟩
                  ·
                    have hx11 : b2 = false := by simp only [SQ, hb7, hb8, hq9, hb9]
                    rw [if_neg (by rw [hx11]; decide)] at kb3
                    obtain ⟨r3, kr3, kb3⟩ := bndO kb3
                    have hq11 := (Option.some.inj kb3).symm
                    simp only [SQ, ty63, ty9, s10.b 1 rfl, sBl, s10.b 0 rfl, ty4, bin_bool (P := Try.prog) ty4 rfl, ty23, hb5, hw2, hlt2_t, hb7, hb8, hq9, hb9, hq11, n1, n2, n3, n4, n5, n6]
                    refine callP (w_dyehouseref12_same kr2) ?_
                    simp only [SQ, ty63, ty61, s10.b 1 rfl, sBl, s10.b 0 rfl, hb5, hw2, hlt2_t, hb7, hb8, hq9, hb9, hq11, n1, n2, n3, n4, n5, n6]
                    refine callP (w_dyehouseref12_Code kr3) ?_
                    simp only [SQ, hb5, hw2, hlt2_t, hb7, hb8, hq9, hb9, hq11, n1, n2, n3, n4, n5, n6]
                    refine hold_intro ?_
                    exact ⟨⟨rfl, rfl, by first | rfl | simp only [SQ, hb5, hw2, hlt2_t, hb7, hb8, hq9, hb9, hq11, n1, n2, n3, n4, n5, n6]⟩, rfl⟩
            · rintro a5 _ ⟨f5, rfl⟩
              refine U_fi f5 ?_
              rcases Bool.eq_false_or_eq_true (b3) with hb10 | hb10
              ·
                rw [if_pos hb10] at hr2
                refine U_condT (by simp only [SQ, hb5, hw2, hlt2_t, hb10, n1, n2, n3, n4, n5, n6]) ?_
                refine U_seq ?_
                refine U_fr 110 [] rfl rfl rfl ?_
                refine U_reg ?_
                simp only [SQ, hb5, hw2, hlt2_t, hb10, n1, n2, n3, n4, n5, n6]
                refine hold_intro ?_
                refine U_ret ?_
                replace hr2 := Option.some.inj hr2
                subst hr2
                replace hl4 : u3 = .r _ := hl4
                subst hl4
                replace h := outE_r h
                replace h := Option.some.inj h
                subst h
                refine ⟨.bool false, by simp only [ires, iress, Try.results34, SQ, List.toList_toArray, hb5, hw2, hlt2_t, hb10, n1, n2, n3, n4, n5, n6], ?_⟩
                exact .cl (closed_bool _)
              ·
                rw [if_neg (by rw [hb10]; decide)] at hr2
                refine U_condF (by simp only [SQ, hb5, hw2, hlt2_t, hb10, n1, n2, n3, n4, n5, n6]) ?_
                refine U_skip ?_
                refine U_reg ?_
                simp only [SQ, hb5, hw2, hlt2_t, hb10, n1, n2, n3, n4, n5, n6]
                refine hold_intro ?_
                replace hr2 := Option.some.inj hr2
                subst hr2
                refine ⟨i2 + 1, ?_, hl4, Int.le_add_one hl3, ⟨rfl, rfl, by first | rfl | simp only [SQ, hb5, hw2, hlt2_t, hb10, n1, n2, n3, n4, n5, n6]⟩, s10.sel [2, 3] (by decide)⟩
                show ((av_1.blocks.length : Int) - (i2 + 1)).toNat < ((av_1.blocks.length : Int) - i2).toNat; omega
          ·
            have hlt2_e := forE_end hf2 hlt2
            have hlt2_t : decide (i2 < (av_1.blocks.length : Int)) = false := decide_eq_false hlt2
            refine U_seq (U_seq ?_)
            refine U_reg ?_
            simp only [SQ, ty26, ty24, s6.b 0 rfl, sFnc, len_sim ty24 rfl, hb5, hlt2_t, n1, n2, n3, n4, n5, n6]
            refine hold_intro ?_
            refine U_condF (by simp only [SQ, hb5, hlt2_t, n1, n2, n3, n4, n5, n6]) (U_exit rfl ?_)
            exact ⟨hlt2_e, ⟨rfl, rfl, by first | rfl | simp only [SQ, hb5, hlt2_t, n1, n2, n3, n4, n5, n6]⟩, s6⟩
        ·
          rintro a6 H12 ⟨rfl, f6, s12⟩
          replace h := outE_n h
          refine U_fi f6 ?_
          refine U_seq ?_
          refine U_reg ?_
          simp only [SQ, hb5, n1, n2, n3, n4, n5, n6]
          refine hold_intro ?_
          refine U_ret ?_
          replace h := Option.some.inj h
          subst h
          refine ⟨.bool true, by simp only [ires, iress, Try.results34, SQ, List.toList_toArray, hb5, n1, n2, n3, n4, n5, n6], ?_⟩
          exact .cl (closed_bool _)

theorem w_dyehouseref12_Alloc {fuel : Nat} {av_1 : Al} {b_1 : Al} {r0_ : Bool} (h : p_dyehouseref12_Alloc fuel av_1 b_1 = some r0_) : Pure1 Try.prog 59 [.agg (eAl av_1), .agg (eAl b_1)] (.bool r0_) := by
  refine Pure1_S (all_cl (cl_agg (cl_eAl _)) (all_cl (cl_agg (cl_eAl _)) all_cl0)) fun F H s0 => ?_
  refine U_call 0 Try.func59 rfl (by kernel_rfl) (by simp [Try.ntmps59]) ?_
  rw [Try.ntmps59]
  refine U_fr 38 [(0, .agg (eAl av_1)), (1, .agg (eAl b_1))] rfl rfl rfl ?_
  unfold p_dyehouseref12_Alloc at h
  refine U_seq ?_
  refine U_reg ?_
  simp only [SQ, ty93, sAl, n1, n2, n3, n4, n5, n6]
  refine N_box s0 rfl fun d1 H1 s1 => ?_
  simp only [SQ, ty93, sAl, n1, n2, n3, n4, n5, n6]
  refine N_box s1 rfl fun d2 H2 s2 => ?_
  simp only [SQ, n1, n2, n3, n4, n5, n6]
  refine hold_intro ?_
  refine U_seq ?_
  refine U_seq ?_
  refine U_fr 38 [(2, .pb d1 0 0), (3, .pb d2 0 0)] rfl rfl rfl ?_
  refine U_cut (fun a' H' => Fi a' 38 [(2, .pb d1 0 0), (3, .pb d2 0 0), (19, .bool ((decide (av_1.slots ≠ b_1.slots)) || (decide ((av_1.segs.length : Int) ≠ (b_1.segs.length : Int)))))] ∧ H2 = H') ?_ ?_
  · refine U_reg ?_
    rcases Bool.eq_false_or_eq_true (decide (av_1.slots ≠ b_1.slots)) with hb1 | hb1
    ·
      simp only [SQ, ty93, ty3, s2.b 1 rfl, sAl, s2.b 0 rfl, hb1, n1, n2, n3, n4, n5, n6]
      refine hold_intro ?_
      exact ⟨⟨rfl, rfl, by first | rfl | simp only [SQ, hb1, n1, n2, n3, n4, n5, n6]⟩, rfl⟩
    ·
      simp only [SQ, ty93, ty3, s2.b 1 rfl, sAl, s2.b 0 rfl, ty91, len_sim ty91 rfl, hb1, n1, n2, n3, n4, n5, n6]
      refine hold_intro ?_
      exact ⟨⟨rfl, rfl, by first | rfl | simp only [SQ, hb1, n1, n2, n3, n4, n5, n6]⟩, rfl⟩
  · rintro a1 _ ⟨f1, rfl⟩
    refine U_fi f1 ?_
    rcases Bool.eq_false_or_eq_true (((decide (av_1.slots ≠ b_1.slots)) || (decide ((av_1.segs.length : Int) ≠ (b_1.segs.length : Int))))) with hb2 | hb2
    ·
      rw [if_pos hb2] at h
      refine U_condT (by simp only [SQ, hb2, n1, n2, n3, n4, n5, n6]) ?_
      refine U_seq ?_
      refine U_fr 38 [] rfl rfl rfl ?_
      refine U_reg ?_
      simp only [SQ, hb2, n1, n2, n3, n4, n5, n6]
      refine hold_intro ?_
      refine U_ret ?_
      replace h := Option.some.inj h
      subst h
      refine ⟨.bool false, by simp only [ires, iress, Try.results59, SQ, List.toList_toArray, hb2, n1, n2, n3, n4, n5, n6], ?_⟩
      exact .cl (closed_bool _)
    ·
      rw [if_neg (by rw [hb2]; decide)] at h
      refine U_condF (by simp only [SQ, hb2, n1, n2, n3, n4, n5, n6]) ?_
      refine U_skip ?_
      refine U_seq ?_
      refine U_seq ?_
      refine U_reg ?_
      simp only [SQ, hb2, n1, n2, n3, n4, n5, n6]
      refine hold_intro ?_
      refine U_fr 38 [(2, .pb d1 0 0), (3, .pb d2 0 0), (5, .int .i64 0)] rfl rfl rfl ?_
      obtain ⟨u1, he1, h⟩ := bndE h
      obtain ⟨hhi1, hlo1, he1⟩ := toE_facts he1
      refine U_cut (fun a' H' => u1 = .n () ∧ Fi a' 38 [] ∧ HS F [pt d1 ⟨2, [eAl av_1]⟩, pt d2 ⟨2, [eAl b_1]⟩] H') (U_block (U_loop (fun z_ a' H' => match z_ with | i1 => forE ((av_1.segs.length : Int) - i1).toNat i1 (fun i _ => p_dyehouseref12_Alloc_b1 fuel av_1 b_1 i) () = some u1 ∧ 0 ≤ i1 ∧ Fi a' 38 [(2, .pb d1 0 0), (3, .pb d2 0 0), (5, .int .i64 i1)] ∧ HS F [pt d1 ⟨2, [eAl av_1]⟩, pt d2 ⟨2, [eAl b_1]⟩] H' : Int → Fr → Heap → Prop) (fun z_ : Int => ((av_1.segs.length : Int) - z_).toNat) 0 ?_ ?_)) ?_
      · exact ⟨he1, Int.le_refl _, ⟨rfl, rfl, by first | rfl | simp only [SQ, hb2, n1, n2, n3, n4, n5, n6]⟩, s2.sel [1, 0] (by decide)⟩
      ·
        rintro i1 a2 H4 ⟨hf1, hl1, f2, s4⟩
        refine U_fi f2 ?_
        by_cases hlt1 : i1 < (av_1.segs.length : Int)
        ·
          obtain ⟨u2, hr1, hl2⟩ := forE_step hf1 hlt1
          replace hr1 : p_dyehouseref12_Alloc_b1 fuel av_1 b_1 i1 = some u2 := hr1
          unfold p_dyehouseref12_Alloc_b1 at hr1
          have hw1 := wrap_next hlt1 hhi1 hlo1 hl1
          have hlt1_t : decide (i1 < (av_1.segs.length : Int)) = true := decide_eq_true hlt1
          refine U_seq (U_seq ?_)
          refine U_reg ?_
          simp only [SQ, ty93, ty91, s4.b 0 rfl, sAl, len_sim ty91 rfl, hb2, hw1, hlt1_t, n1, n2, n3, n4, n5, n6]
          refine hold_intro ?_
          refine U_condT (by simp only [SQ, hb2, hw1, hlt1_t, n1, n2, n3, n4, n5, n6]) (U_skip ?_)
          refine U_seq ?_
          refine U_block ?_
          refine U_seq ?_
          obtain ⟨x1, kx1, hr1⟩ := bndO hr1
          obtain ⟨x2, kx2, hr1⟩ := bndO hr1
          refine U_drawQ hm [0, 1, 0, 7, 15, 0, 32, 0, 224, 480, 1023] false 10 (by decide +kernel) (by decide) ?_
          simp only [SQ, ty93, ty91, s4.b 0 rfl, sAl, ty155, iia_sim (f := eSg) ty91 rfl ty155 kx1 rfl, row_sim (f := eSg) kx1, sSg, s4.b 1 rfl, iia_sim (f := eSg) ty91 rfl ty155 kx2 rfl, row_sim (f := eSg) kx2, qSg, hb2, hw1, hlt1_t, n1, n2, n3, n4, n5, n6]
          refine hold_intro ?_
          rcases Bool.eq_false_or_eq_true ((!decide (x1 = x2))) with hb3 | hb3
          ·
            rw [if_pos hb3] at hr1
            refine U_condT (by simp only [SQ, hb2, hw1, hlt1_t, hb3, n1, n2, n3, n4, n5, n6]) ?_
            refine U_seq ?_
            refine U_fr 38 [] rfl rfl rfl ?_
            refine U_reg ?_
            simp only [SQ, hb2, hw1, hlt1_t, hb3, n1, n2, n3, n4, n5, n6]
            refine hold_intro ?_
            refine U_ret ?_
            replace hr1 := Option.some.inj hr1
            subst hr1
            replace hl2 : u1 = .r _ := hl2
            subst hl2
            replace h := outE_r h
            replace h := Option.some.inj h
            subst h
            refine ⟨.bool false, by simp only [ires, iress, Try.results59, SQ, List.toList_toArray, hb2, hw1, hlt1_t, hb3, n1, n2, n3, n4, n5, n6], ?_⟩
            exact .cl (closed_bool _)
          ·
            rw [if_neg (by rw [hb3]; decide)] at hr1
            refine U_condF (by simp only [SQ, hb2, hw1, hlt1_t, hb3, n1, n2, n3, n4, n5, n6]) ?_
            refine U_skip ?_
            refine U_reg ?_
            simp only [SQ, hb2, hw1, hlt1_t, hb3, n1, n2, n3, n4, n5, n6]
            refine hold_intro ?_
            replace hr1 := Option.some.inj hr1
            subst hr1
            refine ⟨i1 + 1, ?_, hl2, Int.le_add_one hl1, ⟨rfl, rfl, by first | rfl | simp only [SQ, hb2, hw1, hlt1_t, hb3, n1, n2, n3, n4, n5, n6]⟩, s4⟩
            show ((av_1.segs.length : Int) - (i1 + 1)).toNat < ((av_1.segs.length : Int) - i1).toNat; omega
        ·
          have hlt1_e := forE_end hf1 hlt1
          have hlt1_t : decide (i1 < (av_1.segs.length : Int)) = false := decide_eq_false hlt1
          refine U_seq (U_seq ?_)
          refine U_reg ?_
          simp only [SQ, ty93, ty91, s4.b 0 rfl, sAl, len_sim ty91 rfl, hb2, hlt1_t, n1, n2, n3, n4, n5, n6]
          refine hold_intro ?_
          refine U_condF (by simp only [SQ, hb2, hlt1_t, n1, n2, n3, n4, n5, n6]) (U_exit rfl ?_)
          exact ⟨hlt1_e, ⟨rfl, rfl, by first | rfl | simp only [SQ, hb2, hlt1_t, n1, n2, n3, n4, n5, n6]⟩, s4⟩
      ·
        rintro a3 H5 ⟨rfl, f3, s5⟩
        replace h := outE_n h
        refine U_fi f3 ?_
        refine U_seq ?_
        refine U_reg ?_
        simp only [SQ, hb2, n1, n2, n3, n4, n5, n6]
        refine hold_intro ?_
        refine U_ret ?_
        replace h := Option.some.inj h
        subst h
        refine ⟨.bool true, by simp only [ires, iress, Try.results59, SQ, List.toList_toArray, hb2, n1, n2, n3, n4, n5, n6], ?_⟩
        exact .cl (closed_bool _)

theorem w_dyehouseref12_Unit {fuel : Nat} {av_1 : Unt} {b_1 : Unt} {r0_ : Bool} (h : p_dyehouseref12_Unit fuel av_1 b_1 = some r0_) : Pure1 Try.prog 56 [.agg (eUnt av_1), .agg (eUnt b_1)] (.bool r0_) := by
  refine Pure1_S (all_cl (cl_agg (cl_eUnt _)) (all_cl (cl_agg (cl_eUnt _)) all_cl0)) fun F H s0 => ?_
  refine U_call 0 Try.func56 rfl (by kernel_rfl) (by simp [Try.ntmps56]) ?_
  rw [Try.ntmps56]
  refine U_fr 31 [(0, .agg (eUnt av_1)), (1, .agg (eUnt b_1))] rfl rfl rfl ?_
  unfold p_dyehouseref12_Unit at h
  refine U_seq ?_
  refine U_reg ?_
  simp only [SQ, ty95, sUnt, n1, n2, n3, n4, n5, n6]
  refine N_box s0 rfl fun d1 H1 s1 => ?_
  simp only [SQ, ty95, sUnt, n1, n2, n3, n4, n5, n6]
  refine N_box s1 rfl fun d2 H2 s2 => ?_
  simp only [SQ, n1, n2, n3, n4, n5, n6]
  refine hold_intro ?_
  refine U_seq ?_
  refine U_fr 31 [(2, .pb d1 0 0), (3, .pb d2 0 0), (4, .bool false)] rfl rfl rfl ?_
  obtain ⟨r1, kr1, h⟩ := bndO h
  obtain ⟨b1, kb1, h⟩ := bndO h
  obtain ⟨b2, kb2, h⟩ := bndO h
  refine U_cut (fun a' H' => Fi a' 31 [(4, .bool b2)] ∧ H2 = H') ?_ ?_
  · refine U_reg ?_
    rcases Bool.eq_false_or_eq_true (r1) with hb1 | hb1
    ·
      have hx1 := hb1
      rw [if_pos hx1] at kb1
      obtain ⟨r2, kr2, kb1⟩ := bndO kb1
      have hq1 := (Option.some.inj kb1).symm
      rcases Bool.eq_false_or_eq_true (r2) with hb2 | hb2
      ·
        rcases Bool.eq_false_or_eq_true ((av_1.has == b_1.has)) with hb3 | hb3
        ·
          have hx2 : (b1 && (av_1.has == b_1.has)) = true := by simp only [SQ, hb1, hq1, hb2, hb3]
          rw [if_pos hx2] at kb2
          obtain ⟨r3, kr3, kb2⟩ := bndO kb2
          have hq2 := (Option.some.inj kb2).symm
          simp only [SQ, ty95, ty90, s2.b 1 rfl, sUnt, s2.b 0 rfl, hb1, hq1, hb2, hb3, hq2, n1, n2, n3, n4, n5, n6]
          refine callP (w_dyehouseref12_Target kr1) ?_
          simp only [SQ, ty95, ty26, s2.b 1 rfl, sUnt, s2.b 0 rfl, hb1, hq1, hb2, hb3, hq2, n1, n2, n3, n4, n5, n6]
          refine callP (w_dyehouseref12_Same kr2) ?_
          simp only [SQ, ty95, ty4, s2.b 1 rfl, sUnt, s2.b 0 rfl, bin_bool (P := Try.prog) ty4 rfl, ty93, hb1, hq1, hb2, hb3, hq2, n1, n2, n3, n4, n5, n6]
          refine callP (w_dyehouseref12_Alloc kr3) ?_
          simp only [SQ, hb1, hq1, hb2, hb3, hq2, n1, n2, n3, n4, n5, n6]
          refine hold_intro ?_
          exact ⟨⟨rfl, rfl, by first | rfl | simp only [SQ, hb1, hq1, hb2, hb3, hq2, n1, n2, n3, n4, n5, n6]⟩, rfl⟩
        ·
          have hx3 : (b1 && (av_1.has == b_1.has)) = false := by simp only [SQ, hb1, hq1, hb2, hb3]
          rw [if_neg (by rw [hx3]; decide)] at kb2
          have hq3 := (Option.some.inj kb2).symm
          simp only [SQ, ty95, ty90, s2.b 1 rfl, sUnt, s2.b 0 rfl, hb1, hq1, hb2, hb3, hq3, n1, n2, n3, n4, n5, n6]
          refine callP (w_dyehouseref12_Target kr1) ?_
          simp only [SQ, ty95, ty26, s2.b 1 rfl, sUnt, s2.b 0 rfl, hb1, hq1, hb2, hb3, hq3, n1, n2, n3, n4, n5, n6]
          refine callP (w_dyehouseref12_Same kr2) ?_
          simp only [SQ, ty95, ty4, s2.b 1 rfl, sUnt, s2.b 0 rfl, bin_bool (P := Try.prog) ty4 rfl, hb1, hq1, hb2, hb3, hq3, n1, n2, n3, n4, n5, n6]
          refine hold_intro ?_
          exact ⟨⟨rfl, rfl, by first | rfl | simp only [SQ, hb1, hq1, hb2, hb3, hq3, n1, n2, n3, n4, n5, n6]⟩, rfl⟩
      ·
        have hx4 : (b1 && (av_1.has == b_1.has)) = false := by simp only [SQ, hb1, hq1, hb2]
        rw [if_neg (by rw [hx4]; decide)] at kb2
        have hq4 := (Option.some.inj kb2).symm
        simp only [SQ, ty95, ty90, s2.b 1 rfl, sUnt, s2.b 0 rfl, hb1, hq1, hb2, hq4, n1, n2, n3, n4, n5, n6]
        refine callP (w_dyehouseref12_Target kr1) ?_
        simp only [SQ, ty95, ty26, s2.b 1 rfl, sUnt, s2.b 0 rfl, hb1, hq1, hb2, hq4, n1, n2, n3, n4, n5, n6]
        refine callP (w_dyehouseref12_Same kr2) ?_
        simp only [SQ, hb1, hq1, hb2, hq4, n1, n2, n3, n4, n5, n6]
        refine hold_intro ?_
        exact ⟨⟨rfl, rfl, by first | rfl | simp only [SQ, hb1, hq1, hb2, hq4, n1, n2, n3, n4, n5, n6]⟩, rfl⟩
    ·
      have hx5 := hb1
      rw [if_neg (by rw [hx5]; decide)] at kb1
      have hq5 := (Option.some.inj kb1).symm
      have hx6 : (b1 && (av_1.has == b_1.has)) = false := by simp only [SQ, hb1, hq5]
      rw [if_neg (by rw [hx6]; decide)] at kb2
      have hq6 := (Option.some.inj kb2).symm
      simp only [SQ, ty95, ty90, s2.b 1 rfl, sUnt, s2.b 0 rfl, hb1, hq5, hq6, n1, n2, n3, n4, n5, n6]
      refine callP (w_dyehouseref12_Target kr1) ?_
      simp only [SQ, hb1, hq5, hq6, n1, n2, n3, n4, n5, n6]
      refine hold_intro ?_
      exact ⟨⟨rfl, rfl, by first | rfl | simp only [SQ, hb1, hq5, hq6, n1, n2, n3, n4, n5, n6]⟩, rfl⟩
  · rintro a1 _ ⟨f1, rfl⟩
    refine U_fi f1 ?_
    refine U_ret ?_
    replace h := Option.some.inj h
    subst h
    refine ⟨.bool b2, by simp only [ires, iress, Try.results56, SQ, List.toList_toArray, n1, n2, n3, n4, n5, n6], ?_⟩
    exact .cl (closed_bool _)

theorem w_dyehouselaw12_IrSames {fuel : Nat} {av_1 : Unt} {b_1 : Unt} {r0_ : Bool} (h : p_dyehouselaw12_IrSames fuel av_1 b_1 = some r0_) : Pure1 Try.prog 9 [.agg (eUnt av_1), .agg (eUnt b_1)] (.bool r0_) := by
  refine Pure1_S (all_cl (cl_agg (cl_eUnt _)) (all_cl (cl_agg (cl_eUnt _)) all_cl0)) fun F H s0 => ?_
  refine U_call 0 Try.func9 rfl (by kernel_rfl) (by simp [Try.ntmps9]) ?_
  rw [Try.ntmps9]
  refine U_fr 82 [(0, .agg (eUnt av_1)), (1, .agg (eUnt b_1))] rfl rfl rfl ?_
  unfold p_dyehouselaw12_IrSames at h
  refine U_seq ?_
  refine U_reg ?_
  simp only [SQ, ty95, sUnt, n1, n2, n3, n4, n5, n6]
  refine N_box s0 rfl fun d1 H1 s1 => ?_
  simp only [SQ, ty95, sUnt, n1, n2, n3, n4, n5, n6]
  refine N_box s1 rfl fun d2 H2 s2 => ?_
  simp only [SQ, n1, n2, n3, n4, n5, n6]
  refine hold_intro ?_
  refine U_seq ?_
  refine U_seq ?_
  refine U_fr 82 [(2, .pb d1 0 0), (3, .pb d2 0 0)] rfl rfl rfl ?_
  obtain ⟨r1, kr1, h⟩ := bndO h
  obtain ⟨b1, kb1, h⟩ := bndO h
  refine U_cut (fun a' H' => Fi a' 82 [(2, .pb d1 0 0), (3, .pb d2 0 0), (26, .bool ((b1 || (decide (100 < (av_1.alloc.segs.length : Int)))) || (decide (100 < (b_1.alloc.segs.length : Int)))))] ∧ H2 = H') ?_ ?_
  · refine U_reg ?_
    rcases Bool.eq_false_or_eq_true (r1) with hb1 | hb1
    ·
      have hx1 := hb1
      rw [if_pos hx1] at kb1
      have hq1 := (Option.some.inj kb1).symm
      simp only [SQ, ty95, ty26, s2.b 1 rfl, sUnt, hb1, hq1, n1, n2, n3, n4, n5, n6]
      refine callP (w_dyehouseref12_Large kr1) ?_
      simp only [SQ, hb1, hq1, n1, n2, n3, n4, n5, n6]
      refine hold_intro ?_
      exact ⟨⟨rfl, rfl, by first | rfl | simp only [SQ, hb1, hq1, n1, n2, n3, n4, n5, n6]⟩, rfl⟩
    ·
      have hx2 := hb1
      rw [if_neg (by rw [hx2]; decide)] at kb1
      obtain ⟨r2, kr2, kb1⟩ := bndO kb1
      have hq2 := (Option.some.inj kb1).symm
      rcases Bool.eq_false_or_eq_true (r2) with hb2 | hb2
      ·
        simp only [SQ, ty95, ty26, s2.b 1 rfl, sUnt, hb1, hq2, hb2, n1, n2, n3, n4, n5, n6]
        refine callP (w_dyehouseref12_Large kr1) ?_
        simp only [SQ, ty95, ty26, s2.b 0 rfl, sUnt, hb1, hq2, hb2, n1, n2, n3, n4, n5, n6]
        refine callP (w_dyehouseref12_Large kr2) ?_
        simp only [SQ, hb1, hq2, hb2, n1, n2, n3, n4, n5, n6]
        refine hold_intro ?_
        exact ⟨⟨rfl, rfl, by first | rfl | simp only [SQ, hb1, hq2, hb2, n1, n2, n3, n4, n5, n6]⟩, rfl⟩
      ·
        rcases Bool.eq_false_or_eq_true (decide (100 < (av_1.alloc.segs.length : Int))) with hb3 | hb3
        ·
          simp only [SQ, ty95, ty26, s2.b 1 rfl, sUnt, hb1, hq2, hb2, hb3, n1, n2, n3, n4, n5, n6]
          refine callP (w_dyehouseref12_Large kr1) ?_
          simp only [SQ, ty95, ty26, s2.b 0 rfl, sUnt, hb1, hq2, hb2, hb3, n1, n2, n3, n4, n5, n6]
          refine callP (w_dyehouseref12_Large kr2) ?_
          simp only [SQ, ty95, ty93, ty91, s2.b 1 rfl, sUnt, len_sim ty91 rfl, hb1, hq2, hb2, hb3, n1, n2, n3, n4, n5, n6]
          refine hold_intro ?_
          exact ⟨⟨rfl, rfl, by first | rfl | simp only [SQ, hb1, hq2, hb2, hb3, n1, n2, n3, n4, n5, n6]⟩, rfl⟩
        ·
          simp only [SQ, ty95, ty26, s2.b 1 rfl, sUnt, hb1, hq2, hb2, hb3, n1, n2, n3, n4, n5, n6]
          refine callP (w_dyehouseref12_Large kr1) ?_
          simp only [SQ, ty95, ty26, s2.b 0 rfl, sUnt, hb1, hq2, hb2, hb3, n1, n2, n3, n4, n5, n6]
          refine callP (w_dyehouseref12_Large kr2) ?_
          simp only [SQ, ty95, ty93, ty91, s2.b 1 rfl, sUnt, len_sim ty91 rfl, s2.b 0 rfl, hb1, hq2, hb2, hb3, n1, n2, n3, n4, n5, n6]
          refine hold_intro ?_
          exact ⟨⟨rfl, rfl, by first | rfl | simp only [SQ, hb1, hq2, hb2, hb3, n1, n2, n3, n4, n5, n6]⟩, rfl⟩
  · rintro a1 _ ⟨f1, rfl⟩
    refine U_fi f1 ?_
    rcases Bool.eq_false_or_eq_true (((b1 || (decide (100 < (av_1.alloc.segs.length : Int)))) || (decide (100 < (b_1.alloc.segs.length : Int))))) with hb4 | hb4
    ·
      rw [if_pos hb4] at h
      refine U_condT (by simp only [SQ, hb4, n1, n2, n3, n4, n5, n6]) ?_
      refine U_seq ?_
      refine U_fr 82 [] rfl rfl rfl ?_
      obtain ⟨r3, kr3, h⟩ := bndO h
      refine U_reg ?_
      simp only [SQ, hb4, n1, n2, n3, n4, n5, n6]
      refine callP (w_dyehouselaw12_works kr3) ?_
      simp only [SQ, hb4, n1, n2, n3, n4, n5, n6]
      refine hold_intro ?_
      refine U_ret ?_
      replace h := Option.some.inj h
      subst h
      refine ⟨.bool r3, by simp only [ires, iress, Try.results9, SQ, List.toList_toArray, hb4, n1, n2, n3, n4, n5, n6], ?_⟩
      exact .cl (closed_bool _)
    ·
      rw [if_neg (by rw [hb4]; decide)] at h
      refine U_condF (by simp only [SQ, hb4, n1, n2, n3, n4, n5, n6]) ?_
      refine U_skip ?_
      refine U_seq ?_
      refine U_fr 82 [(2, .pb d1 0 0), (3, .pb d2 0 0)] rfl rfl rfl ?_
      obtain ⟨r4, kr4, h⟩ := bndO h
      obtain ⟨r5, kr5, h⟩ := bndO h
      obtain ⟨b2, kb2, h⟩ := bndO h
      obtain ⟨b3, kb3, h⟩ := bndO h
      obtain ⟨b4, kb4, h⟩ := bndO h
      obtain ⟨b5, kb5, h⟩ := bndO h
      obtain ⟨b6, kb6, h⟩ := bndO h
      refine U_cut (fun a' H' => Fi a' 82 [(4, .bool b6)] ∧ H2 = H') ?_ ?_
      · refine U_drawQ hm [0, 0, 3, 0, 0, 31, 63, 127, 255, 511, 255, 1279, 4095, 255, 8447, 255, 33023, 131071, 262143, 524287, 1048575, 2097151, 4194303, 2097151, 10485759, 33554431, 2097151, 69206015, 2097151, 270532607, 1073741823, 2147483647, 4294967295, 8589934591, 17179869183, 34359738367, 17179869183, 85899345919, 274877906943, 17179869183, 566935683071, 17179869183, 2216203124735, 8796093022207, 17592186044415, 35184372088831, 70368744177663, 140737488355327, 140737488355327, 562949953421311, 1125899906842623, 2251799813685247, 4503599627370495, 9007199254740991, 18014398509481983] false 49 (by decide +kernel) (by decide) ?_
        rcases Bool.eq_false_or_eq_true ((r4 == r5)) with hb5 | hb5
        ·
          have hx3 := hb5
          rw [if_pos hx3] at kb2
          obtain ⟨r6, kr6, kb2⟩ := bndO kb2
          obtain ⟨r7, kr7, kb2⟩ := bndO kb2
          have hq3 := (Option.some.inj kb2).symm
          rcases Bool.eq_false_or_eq_true ((r6 == r7)) with hb6 | hb6
          ·
            have hx4 : b2 = true := by simp only [SQ, hb5, hq3, hb6]
            rw [if_pos hx4] at kb3
            obtain ⟨r8, kr8, kb3⟩ := bndO kb3
            obtain ⟨r9, kr9, kb3⟩ := bndO kb3
            have hq4 := (Option.some.inj kb3).symm
            rcases Bool.eq_false_or_eq_true ((r8 == r9)) with hb7 | hb7
            ·
              have hx5 : b3 = true := by simp only [SQ, hb5, hq3, hb6, hq4, hb7]
              rw [if_pos hx5] at kb4
              obtain ⟨r10, kr10, kb4⟩ := bndO kb4
              obtain ⟨r11, kr11, kb4⟩ := bndO kb4
              have hq5 := (Option.some.inj kb4).symm
              rcases Bool.eq_false_or_eq_true ((r10 == r11)) with hb8 | hb8
              ·
                have hx6 : b4 = true := by simp only [SQ, hb5, hq3, hb6, hq4, hb7, hq5, hb8]
                rw [if_pos hx6] at kb5
                obtain ⟨r12, kr12, kb5⟩ := bndO kb5
                have hq6 := (Option.some.inj kb5).symm
                rcases Bool.eq_false_or_eq_true (r12) with hb9 | hb9
                ·
                  have hx7 : b5 = true := by simp only [SQ, hb5, hq3, hb6, hq4, hb7, hq5, hb8, hq6, hb9]
                  rw [if_pos hx7] at kb6
                  obtain ⟨r13, kr13, kb6⟩ := bndO kb6
                  have hq7 := (Option.some.inj kb6).symm
                  simp only [SQ, ty95, s2.b 1 rfl, sUnt, s2.b 0 rfl, hb4, hb5, hq3, hb6, hq4, hb7, hq5, hb8, hq6, hb9, hq7, n1, n2, n3, n4, n5, n6]
                  refine callP (w_ir_SameUnit kr4) ?_
                  simp only [SQ, ty95, s2.b 1 rfl, sUnt, s2.b 0 rfl, hb4, hb5, hq3, hb6, hq4, hb7, hq5, hb8, hq6, hb9, hq7, n1, n2, n3, n4, n5, n6]
                  refine callP (w_dyehouseref12_Unit kr5) ?_
                  simp only [SQ, bin_bool (P := Try.prog) ty4 rfl, ty95, ty26, s2.b 1 rfl, sUnt, s2.b 0 rfl, hb4, hb5, hq3, hb6, hq4, hb7, hq5, hb8, hq6, hb9, hq7, n1, n2, n3, n4, n5, n6]
                  refine callP (w_ir_Same kr6) ?_
                  simp only [SQ, ty95, ty26, s2.b 1 rfl, sUnt, s2.b 0 rfl, hb4, hb5, hq3, hb6, hq4, hb7, hq5, hb8, hq6, hb9, hq7, n1, n2, n3, n4, n5, n6]
                  refine callP (w_dyehouseref12_Same kr7) ?_
                  simp only [SQ, bin_bool (P := Try.prog) ty4 rfl, ty95, ty93, s2.b 1 rfl, sUnt, s2.b 0 rfl, hb4, hb5, hq3, hb6, hq4, hb7, hq5, hb8, hq6, hb9, hq7, n1, n2, n3, n4, n5, n6]
                  refine callP (w_ir_SameAlloc kr8) ?_
                  simp only [SQ, ty95, ty93, s2.b 1 rfl, sUnt, s2.b 0 rfl, hb4, hb5, hq3, hb6, hq4, hb7, hq5, hb8, hq6, hb9, hq7, n1, n2, n3, n4, n5, n6]
                  refine callP (w_dyehouseref12_Alloc kr9) ?_
                  simp only [SQ, bin_bool (P := Try.prog) ty4 rfl, ty95, ty90, s2.b 1 rfl, sUnt, s2.b 0 rfl, hb4, hb5, hq3, hb6, hq4, hb7, hq5, hb8, hq6, hb9, hq7, n1, n2, n3, n4, n5, n6]
                  refine callP (w_ir_SameTarget kr10) ?_
                  simp only [SQ, ty95, ty90, s2.b 1 rfl, sUnt, s2.b 0 rfl, hb4, hb5, hq3, hb6, hq4, hb7, hq5, hb8, hq6, hb9, hq7, n1, n2, n3, n4, n5, n6]
                  refine callP (w_dyehouseref12_Target kr11) ?_
                  simp only [SQ, bin_bool (P := Try.prog) ty4 rfl, ty95, s2.b 1 rfl, sUnt, hb4, hb5, hq3, hb6, hq4, hb7, hq5, hb8, hq6, hb9, hq7, n1, n2, n3, n4, n5, n6]
                  refine callP (w_ir_SameUnit kr12) ?_
                  simp only [SQ, hb4, hb5, hq3, hb6, hq4, hb7, hq5, hb8, hq6, hb9, hq7, n1, n2, n3, n4, n5, n6]
                  refine callP (w_dyehouselaw12_works kr13) ?_
                  simp only [SQ, hb4, hb5, hq3, hb6, hq4, hb7, hq5, hb8, hq6, hb9, hq7, n1, n2, n3, n4, n5, n6]
                  refine hold_intro ?_
                  exact ⟨⟨rfl, rfl, by first | rfl | simp only [SQ, hb4, hb5, hq3, hb6, hq4, hb7, hq5, hb8, hq6, hb9, hq7, n1, n2, n3, n4, n5, n6]⟩, rfl⟩
                ·
                  have hx8 : b5 = false := by simp only [SQ, hb5, hq3, hb6, hq4, hb7, hq5, hb8, hq6, hb9]
                  rw [if_neg (by rw [hx8]; decide)] at kb6
                  have hq8 := (Option.some.inj kb6).symm
                  simp only [SQ, ty95, s2.b 1 rfl, sUnt, s2.b 0 rfl, hb4, hb5, hq3, hb6, hq4, hb7, hq5, hb8, hq6, hb9, hq8, n1, n2, n3, n4, n5, n6]
                  refine callP (w_ir_SameUnit kr4) ?_
                  simp only [SQ, ty95, s2.b 1 rfl, sUnt, s2.b 0 rfl, hb4, hb5, hq3, hb6, hq4, hb7, hq5, hb8, hq6, hb9, hq8, n1, n2, n3, n4, n5, n6]
                  refine callP (w_dyehouseref12_Unit kr5) ?_
                  simp only [SQ, bin_bool (P := Try.prog) ty4 rfl, ty95, ty26, s2.b 1 rfl, sUnt, s2.b 0 rfl, hb4, hb5, hq3, hb6, hq4, hb7, hq5, hb8, hq6, hb9, hq8, n1, n2, n3, n4, n5, n6]
                  refine callP (w_ir_Same kr6) ?_
                  simp only [SQ, ty95, ty26, s2.b 1 rfl, sUnt, s2.b 0 rfl, hb4, hb5, hq3, hb6, hq4, hb7, hq5, hb8, hq6, hb9, hq8, n1, n2, n3, n4, n5, n6]
                  refine callP (w_dyehouseref12_Same kr7) ?_
                  simp only [SQ, bin_bool (P := Try.prog) ty4 rfl, ty95, ty93, s2.b 1 rfl, sUnt, s2.b 0 rfl, hb4, hb5, hq3, hb6, hq4, hb7, hq5, hb8, hq6, hb9, hq8, n1, n2, n3, n4, n5, n6]
                  refine callP (w_ir_SameAlloc kr8) ?_
                  simp only [SQ, ty95, ty93, s2.b 1 rfl, sUnt, s2.b 0 rfl, hb4, hb5, hq3, hb6, hq4, hb7, hq5, hb8, hq6, hb9, hq8, n1, n2, n3, n4, n5, n6]
                  refine callP (w_dyehouseref12_Alloc kr9) ?_
                  simp only [SQ, bin_bool (P := Try.prog) ty4 rfl, ty95, ty90, s2.b 1 rfl, sUnt, s2.b 0 rfl, hb4, hb5, hq3, hb6, hq4, hb7, hq5, hb8, hq6, hb9, hq8, n1, n2, n3, n4, n5, n6]
                  refine callP (w_ir_SameTarget kr10) ?_
                  simp only [SQ, ty95, ty90, s2.b 1 rfl, sUnt, s2.b 0 rfl, hb4, hb5, hq3, hb6, hq4, hb7, hq5, hb8, hq6, hb9, hq8, n1, n2, n3, n4, n5, n6]
                  refine callP (w_dyehouseref12_Target kr11) ?_
                  simp only [SQ, bin_bool (P := Try.prog) ty4 rfl, ty95, s2.b 1 rfl, sUnt, hb4, hb5, hq3, hb6, hq4, hb7, hq5, hb8, hq6, hb9, hq8, n1, n2, n3, n4, n5, n6]
                  refine callP (w_ir_SameUnit kr12) ?_
                  simp only [SQ, hb4, hb5, hq3, hb6, hq4, hb7, hq5, hb8, hq6, hb9, hq8, n1, n2, n3, n4, n5, n6]
                  refine hold_intro ?_
                  exact ⟨⟨rfl, rfl, by first | rfl | simp only [SQ, hb4, hb5, hq3, hb6, hq4, hb7, hq5, hb8, hq6, hb9, hq8, n1, n2, n3, n4, n5, n6]⟩, rfl⟩
              ·
                have hx9 : b4 = false := by simp only [SQ, hb5, hq3, hb6, hq4, hb7, hq5, hb8]
                rw [if_neg (by rw [hx9]; decide)] at kb5
                have hq9 := (Option.some.inj kb5).symm
                have hx10 : b5 = false := by simp only [SQ, hb5, hq3, hb6, hq4, hb7, hq5, hb8, hq9]
                rw [if_neg (by rw [hx10]; decide)] at kb6
                have hq10 := (Option.some.inj kb6).symm
                simp only [SQ, ty95, s2.b 1 rfl, sUnt, s2.b 0 rfl, hb4, hb5, hq3, hb6, hq4, hb7, hq5, hb8, hq9, hq10, n1, n2, n3, n4, n5, n6]
                refine callP (w_ir_SameUnit kr4) ?_
                simp only [SQ, ty95, s2.b 1 rfl, sUnt, s2.b 0 rfl, hb4, hb5, hq3, hb6, hq4, hb7, hq5, hb8, hq9, hq10, n1, n2, n3, n4, n5, n6]
                refine callP (w_dyehouseref12_Unit kr5) ?_
                simp only [SQ, bin_bool (P := Try.prog) ty4 rfl, ty95, ty26, s2.b 1 rfl, sUnt, s2.b 0 rfl, hb4, hb5, hq3, hb6, hq4, hb7, hq5, hb8, hq9, hq10, n1, n2, n3, n4, n5, n6]
                refine callP (w_ir_Same kr6) ?_
                simp only [SQ, ty95, ty26, s2.b 1 rfl, sUnt, s2.b 0 rfl, hb4, hb5, hq3, hb6, hq4, hb7, hq5, hb8, hq9, hq10, n1, n2, n3, n4, n5, n6]
                refine callP (w_dyehouseref12_Same kr7) ?_
                simp only [SQ, bin_bool (P := Try.prog) ty4 rfl, ty95, ty93, s2.b 1 rfl, sUnt, s2.b 0 rfl, hb4, hb5, hq3, hb6, hq4, hb7, hq5, hb8, hq9, hq10, n1, n2, n3, n4, n5, n6]
                refine callP (w_ir_SameAlloc kr8) ?_
                simp only [SQ, ty95, ty93, s2.b 1 rfl, sUnt, s2.b 0 rfl, hb4, hb5, hq3, hb6, hq4, hb7, hq5, hb8, hq9, hq10, n1, n2, n3, n4, n5, n6]
                refine callP (w_dyehouseref12_Alloc kr9) ?_
                simp only [SQ, bin_bool (P := Try.prog) ty4 rfl, ty95, ty90, s2.b 1 rfl, sUnt, s2.b 0 rfl, hb4, hb5, hq3, hb6, hq4, hb7, hq5, hb8, hq9, hq10, n1, n2, n3, n4, n5, n6]
                refine callP (w_ir_SameTarget kr10) ?_
                simp only [SQ, ty95, ty90, s2.b 1 rfl, sUnt, s2.b 0 rfl, hb4, hb5, hq3, hb6, hq4, hb7, hq5, hb8, hq9, hq10, n1, n2, n3, n4, n5, n6]
                refine callP (w_dyehouseref12_Target kr11) ?_
                simp only [SQ, bin_bool (P := Try.prog) ty4 rfl, hb4, hb5, hq3, hb6, hq4, hb7, hq5, hb8, hq9, hq10, n1, n2, n3, n4, n5, n6]
                refine hold_intro ?_
                exact ⟨⟨rfl, rfl, by first | rfl | simp only [SQ, hb4, hb5, hq3, hb6, hq4, hb7, hq5, hb8, hq9, hq10, n1, n2, n3, n4, n5, n6]⟩, rfl⟩
            ·
              have hx11 : b3 = false := by simp only [SQ, hb5, hq3, hb6, hq4, hb7]
              rw [if_neg (by rw [hx11]; decide)] at kb4
              have hq11 := (Option.some.inj kb4).symm
              have hx12 : b4 = false := by simp only [SQ, hb5, hq3, hb6, hq4, hb7, hq11]
              rw [if_neg (by rw [hx12]; decide)] at kb5
              have hq12 := (Option.some.inj kb5).symm
              have hx13 : b5 = false := by simp only [SQ, hb5, hq3, hb6, hq4, hb7, hq11, hq12]
              rw [if_neg (by rw [hx13]; decide)] at kb6
              have hq13 := (Option.some.inj kb6).symm
              simp only [SQ, ty95, s2.b 1 rfl, sUnt, s2.b 0 rfl, hb4, hb5, hq3, hb6, hq4, hb7, hq11, hq12, hq13, n1, n2, n3, n4, n5, n6]
              refine callP (w_ir_SameUnit kr4) ?_
              simp only [SQ, ty95, s2.b 1 rfl, sUnt, s2.b 0 rfl, hb4, hb5, hq3, hb6, hq4, hb7, hq11, hq12, hq13, n1, n2, n3, n4, n5, n6]
              refine callP (w_dyehouseref12_Unit kr5) ?_
              simp only [SQ, bin_bool (P := Try.prog) ty4 rfl, ty95, ty26, s2.b 1 rfl, sUnt, s2.b 0 rfl, hb4, hb5, hq3, hb6, hq4, hb7, hq11, hq12, hq13, n1, n2, n3, n4, n5, n6]
              refine callP (w_ir_Same kr6) ?_
              simp only [SQ, ty95, ty26, s2.b 1 rfl, sUnt, s2.b 0 rfl, hb4, hb5, hq3, hb6, hq4, hb7, hq11, hq12, hq13, n1, n2, n3, n4, n5, n6]
              refine callP (w_dyehouseref12_Same kr7) ?_
              simp only [SQ, bin_bool (P := Try.prog) ty4 rfl, ty95, ty93, s2.b 1 rfl, sUnt, s2.b 0 rfl, hb4, hb5, hq3, hb6, hq4, hb7, hq11, hq12, hq13, n1, n2, n3, n4, n5, n6]
              refine callP (w_ir_SameAlloc kr8) ?_
              simp only [SQ, ty95, ty93, s2.b 1 rfl, sUnt, s2.b 0 rfl, hb4, hb5, hq3, hb6, hq4, hb7, hq11, hq12, hq13, n1, n2, n3, n4, n5, n6]
              refine callP (w_dyehouseref12_Alloc kr9) ?_
              simp only [SQ, bin_bool (P := Try.prog) ty4 rfl, hb4, hb5, hq3, hb6, hq4, hb7, hq11, hq12, hq13, n1, n2, n3, n4, n5, n6]
              refine hold_intro ?_
              exact ⟨⟨rfl, rfl, by first | rfl | simp only [SQ, hb4, hb5, hq3, hb6, hq4, hb7, hq11, hq12, hq13, n1, n2, n3, n4, n5, n6]⟩, rfl⟩
          ·
            have hx14 : b2 = false := by simp only [SQ, hb5, hq3, hb6]
            rw [if_neg (by rw [hx14]; decide)] at kb3
            have hq14 := (Option.some.inj kb3).symm
            have hx15 : b3 = false := by simp only [SQ, hb5, hq3, hb6, hq14]
            rw [if_neg (by rw [hx15]; decide)] at kb4
            have hq15 := (Option.some.inj kb4).symm
            have hx16 : b4 = false := by simp only [SQ, hb5, hq3, hb6, hq14, hq15]
            rw [if_neg (by rw [hx16]; decide)] at kb5
            have hq16 := (Option.some.inj kb5).symm
            have hx17 : b5 = false := by simp only [SQ, hb5, hq3, hb6, hq14, hq15, hq16]
            rw [if_neg (by rw [hx17]; decide)] at kb6
            have hq17 := (Option.some.inj kb6).symm
            simp only [SQ, ty95, s2.b 1 rfl, sUnt, s2.b 0 rfl, hb4, hb5, hq3, hb6, hq14, hq15, hq16, hq17, n1, n2, n3, n4, n5, n6]
            refine callP (w_ir_SameUnit kr4) ?_
            simp only [SQ, ty95, s2.b 1 rfl, sUnt, s2.b 0 rfl, hb4, hb5, hq3, hb6, hq14, hq15, hq16, hq17, n1, n2, n3, n4, n5, n6]
            refine callP (w_dyehouseref12_Unit kr5) ?_
            simp only [SQ, bin_bool (P := Try.prog) ty4 rfl, ty95, ty26, s2.b 1 rfl, sUnt, s2.b 0 rfl, hb4, hb5, hq3, hb6, hq14, hq15, hq16, hq17, n1, n2, n3, n4, n5, n6]
            refine callP (w_ir_Same kr6) ?_
            simp only [SQ, ty95, ty26, s2.b 1 rfl, sUnt, s2.b 0 rfl, hb4, hb5, hq3, hb6, hq14, hq15, hq16, hq17, n1, n2, n3, n4, n5, n6]
            refine callP (w_dyehouseref12_Same kr7) ?_
            simp only [SQ, bin_bool (P := Try.prog) ty4 rfl, hb4, hb5, hq3, hb6, hq14, hq15, hq16, hq17, n1, n2, n3, n4, n5, n6]
            refine hold_intro ?_
            exact ⟨⟨rfl, rfl, by first | rfl | simp only [SQ, hb4, hb5, hq3, hb6, hq14, hq15, hq16, hq17, n1, n2, n3, n4, n5, n6]⟩, rfl⟩
        ·
          have hx18 := hb5
          rw [if_neg (by rw [hx18]; decide)] at kb2
          have hq18 := (Option.some.inj kb2).symm
          have hx19 : b2 = false := by simp only [SQ, hb5, hq18]
          rw [if_neg (by rw [hx19]; decide)] at kb3
          have hq19 := (Option.some.inj kb3).symm
          have hx20 : b3 = false := by simp only [SQ, hb5, hq18, hq19]
          rw [if_neg (by rw [hx20]; decide)] at kb4
          have hq20 := (Option.some.inj kb4).symm
          have hx21 : b4 = false := by simp only [SQ, hb5, hq18, hq19, hq20]
          rw [if_neg (by rw [hx21]; decide)] at kb5
          have hq21 := (Option.some.inj kb5).symm
          have hx22 : b5 = false := by simp only [SQ, hb5, hq18, hq19, hq20, hq21]
          rw [if_neg (by rw [hx22]; decide)] at kb6
          have hq22 := (Option.some.inj kb6).symm
          simp only [SQ, ty95, s2.b 1 rfl, sUnt, s2.b 0 rfl, hb4, hb5, hq18, hq19, hq20, hq21, hq22, n1, n2, n3, n4, n5, n6]
          refine callP (w_ir_SameUnit kr4) ?_
          simp only [SQ, ty95, s2.b 1 rfl, sUnt, s2.b 0 rfl, hb4, hb5, hq18, hq19, hq20, hq21, hq22, n1, n2, n3, n4, n5, n6]
          refine callP (w_dyehouseref12_Unit kr5) ?_
          simp only [SQ, bin_bool (P := Try.prog) ty4 rfl, hb4, hb5, hq18, hq19, hq20, hq21, hq22, n1, n2, n3, n4, n5, n6]
          refine hold_intro ?_
          exact ⟨⟨rfl, rfl, by first | rfl | simp only [SQ, hb4, hb5, hq18, hq19, hq20, hq21, hq22, n1, n2, n3, n4, n5, n6]⟩, rfl⟩
      · rintro a2 _ ⟨f2, rfl⟩
        refine U_fi f2 ?_
        refine U_ret ?_
        replace h := Option.some.inj h
        subst h
        refine ⟨.bool b6, by simp only [ires, iress, Try.results9, SQ, List.toList_toArray, hb4, n1, n2, n3, n4, n5, n6], ?_⟩
        exact .cl (closed_bool _)

end Go.Proofs.Ytodafoajkajnkaa.IL
