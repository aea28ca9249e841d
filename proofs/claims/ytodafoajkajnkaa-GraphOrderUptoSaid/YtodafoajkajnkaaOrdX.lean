/- The code of functions computes the pure ones. Printed by tq.py. -/
import Derived.Test.YtodafoajkajnkaaOrdX1
import Derived.Test.YtodafoajkajnkaaQT
import Derived.Test.YtodafoajkajnkaaQU
import Derived.Test.YtodafoajkajnkaaSL
import Derived.Test.YtodafoajkajnkaaOrdP
set_option linter.unusedVariables false
set_option linter.unusedSimpArgs false
set_option linter.defProp false
set_option maxRecDepth 100000
set_option maxHeartbeats 2000000
namespace Go.Proofs.Ytodafoajkajnkaa.IL
open Go Go.RowKit PL
open Nat renaming reduceLT → n1, reduceEqDiff → n2, reduceAdd → n3, reduceLeDiff → n4, reduceMul → n5
open Int renaming reduceEq → n6
theorem w_dyehouseref12_maker_last_3 {fuel : Nat} {m_1 : dyehouseref12_maker} {d_1 : DBl} {i_1 : Int} {nv_1 : Int} {r0_ : Ins} (h : p_dyehouseref12_maker_last_v2 fuel m_1 d_1 i_1 nv_1 = some r0_) {v0_ : IV} : CallS Try.prog 91 [v0_, .agg (eDBl d_1), .int .i64 i_1, .int .i64 nv_1] [bx R125t4st2sie7sie v0_ m_1] (fun r L => ∃ w0_0 : IV, ∃ w0_1 : IV, ∃ w0_2 : IV, (r = (.agg [.int .i64 r0_.op, .int .i64 r0_.dst.kind, .int .i64 r0_.dst.cls, .int .i64 r0_.dst.n, .int .i64 r0_.dst.tag, w0_0, .str r0_.name, .int .i64 r0_.off, w0_1, w0_2]) ∧ L = [bx R125t4st2sie7sie v0_ m_1, sl R58i w0_0 r0_.args, sl R9i w0_1 r0_.labels, sl R3i w0_2 r0_.cases])) := by
  intro F H s0
  refine U_call 0 Try.func91 rfl (by kernel_rfl) (by simp [Try.ntmps91]) ?_
  rw [Try.ntmps91]
  refine U_fr 119 [(0, v0_), (1, .agg (eDBl d_1)), (2, .int .i64 i_1), (3, .int .i64 nv_1)] rfl rfl rfl ?_
  unfold p_dyehouseref12_maker_last_v2 at h
  obtain ⟨d1, c1, rfl, s1⟩ := s0.opx 0 rfl
  obtain ⟨w1, w2, rfl, s2⟩ := R125t4st2sie7sie_o 1 s1 rfl
  refine U_seq ?_
  refine U_reg ?_
  simp only [SQ, ty122, sDBl, n1, n2, n3, n4, n5, n6]
  refine N_box s2 rfl fun d2 H1 s3 => ?_
  simp only [SQ, ty66, n1, n2, n3, n4, n5, n6]
  refine N_box s3 rfl fun d3 H2 s4 => ?_
  simp only [SQ, n1, n2, n3, n4, n5, n6]
  refine hold_intro ?_
  refine U_seq ?_
  obtain ⟨r1, kr1, h⟩ := bndO h
  refine U_reg ?_
  simp only [SQ, ty122, ty5, s4.b 1 rfl, sDBl, n1, n2, n3, n4, n5, n6]
  refine callLd (w_dyehouseref12_maker_use kr1) (.cons (Fz_box (s4.pt 4 rfl) (.cons (.cl (closed_bool _)) (.cons (.cl (closed_str _)) (.cons (.cl (cl_map cl_eRg m_1.f.regs)) (.cons (.cl (cl_map cl_eOpd m_1.f.params)) (.cons (s4.fzS 3 rfl) (.cons (.cl (cl_map cl_eInt m_1.ids.a0)) (.cons (.cl (cl_map cl_eInt m_1.ids.a1)) (.cons (s4.fzS 2 rfl) (.nil)))))))))) (.cons (.cl (closed_int _ _)) (.cons (.cl (closed_int _ _)) (.nil)))) (flat_agg (flA (flat_int _ _) (flA (flat_int _ _) (flA (flat_int _ _) (flA (flat_int _ _) fl0))))) ?_
  simp only [SQ, ty58, n1, n2, n3, n4, n5, n6]
  refine N_box s4 rfl fun d4 H3 s5 => ?_
  simp only [SQ, ty58, sOpd, splice_all', s5.b 0 rfl, n1, n2, n3, n4, n5, n6]
  refine N_put 0 s5 rfl fun H4 s6 => ?_
  simp only [SQ, n1, n2, n3, n4, n5, n6]
  refine hold_intro ?_
  refine U_seq ?_
  refine U_seq ?_
  refine U_fr 119 [(2, .int .i64 i_1), (3, .int .i64 nv_1), (5, .pb d2 0 0), (8, .pb d3 0 0), (9, .pb d4 0 0)] rfl rfl rfl ?_
  refine U_cut (fun a' H' => Fi a' 119 [(2, .int .i64 i_1), (3, .int .i64 nv_1), (5, .pb d2 0 0), (8, .pb d3 0 0), (9, .pb d4 0 0), (29, .bool ((decide (nv_1 = 1)) || ((decide (i_1 = (IntKind.wrap .i64 (nv_1 - 1)))) && (decide ((Int.tmod d_1.term 3) = 0)))))] ∧ H4 = H') ?_ ?_
  · refine U_reg ?_
    rcases Bool.eq_false_or_eq_true (decide (nv_1 = 1)) with hb1 | hb1
    ·
      simp only [SQ, hb1, n1, n2, n3, n4, n5, n6]
      refine hold_intro ?_
      exact ⟨⟨rfl, rfl, by first | rfl | simp only [SQ, hb1, n1, n2, n3, n4, n5, n6]⟩, rfl⟩
    ·
      rcases Bool.eq_false_or_eq_true (decide (i_1 = (IntKind.wrap .i64 (nv_1 - 1)))) with hb2 | hb2
      ·
        simp only [SQ, ty122, ty5, s6.b 2 rfl, sDBl, hb1, hb2, n1, n2, n3, n4, n5, n6]
        refine hold_intro ?_
        exact ⟨⟨rfl, rfl, by first | rfl | simp only [SQ, hb1, hb2, n1, n2, n3, n4, n5, n6]⟩, rfl⟩
      ·
        simp only [SQ, hb1, hb2, n1, n2, n3, n4, n5, n6]
        refine hold_intro ?_
        exact ⟨⟨rfl, rfl, by first | rfl | simp only [SQ, hb1, hb2, n1, n2, n3, n4, n5, n6]⟩, rfl⟩
  · rintro a1 _ ⟨f1, rfl⟩
    refine U_fi f1 ?_
    rcases Bool.eq_false_or_eq_true (((decide (nv_1 = 1)) || ((decide (i_1 = (IntKind.wrap .i64 (nv_1 - 1)))) && (decide ((Int.tmod d_1.term 3) = 0))))) with hb3 | hb3
    ·
      rw [if_pos hb3] at h
      refine U_condT (by simp only [SQ, hb3, n1, n2, n3, n4, n5, n6]) ?_
      refine U_seq ?_
      refine U_fr 119 [(5, .pb d2 0 0), (8, .pb d3 0 0), (9, .pb d4 0 0)] rfl rfl rfl ?_
      obtain ⟨⟨c2, c3, c4, c5⟩, kj1, h⟩ := bndO h
      dsimp only at h
      refine U_cut (fun a' H' => Fi a' 119 [(8, .pb d3 0 0), (9, .pb d4 0 0)] ∧ HS F [pt d3 ⟨10, [[.int .i64 0, .int .i64 0, .int .i64 0, .int .i64 0, .int .i64 0, .nils, .str (⟨#[]⟩ : ByteArray), .int .i64 0, .nils, .nils]]⟩, pt d4 ⟨4, [[.int .i64 c2, .int .i64 c3, .int .i64 c4, .int .i64 c5]]⟩, pt d1 ⟨8, [[.bool m_1.f.machine, .str m_1.f.name, .sim (m_1.f.regs.map eRg) false, .sim (m_1.f.params.map eOpd) false, w1, .sim (m_1.ids.a0.map eInt) false, .sim (m_1.ids.a1.map eInt) false, w2]]⟩, sl R63t2sie w1 m_1.f.blocks, sl R3i w2 m_1.has] H') ?_ ?_
      ·
        refine U_seq ?_
        refine U_reg ?_
        simp only [SQ, ty122, ty5, s6.b 2 rfl, sDBl, hb3, n1, n2, n3, n4, n5, n6]
        refine hold_intro ?_
        rcases Bool.eq_false_or_eq_true (decide ((Int.tmod d_1.v 7) = 6)) with hb4 | hb4
        ·
          rw [if_pos hb4] at kj1
          refine U_condT (by simp only [SQ, hb3, hb4, n1, n2, n3, n4, n5, n6]) ?_
          obtain ⟨r2, kr2, kj1⟩ := bndO kj1
          refine U_reg ?_
          simp only [SQ, ty122, ty5, s6.b 2 rfl, sDBl, conv_int ty5 ty3 rfl, hb3, hb4, n1, n2, n3, n4, n5, n6]
          refine callP (w_dyehouseref12_imm kr2) ?_
          simp only [SQ, ty58, sOpd, splice_all', s6.b 0 rfl, hb3, hb4, n1, n2, n3, n4, n5, n6]
          refine N_put 0 s6 rfl fun H7 s9 => ?_
          simp only [SQ, hb3, hb4, n1, n2, n3, n4, n5, n6]
          refine hold_intro ?_
          replace kj1 := Option.some.inj kj1
          obtain ⟨q1, q2⟩ := Prod.mk.inj kj1
          clear kj1
          obtain ⟨q3, q4⟩ := Prod.mk.inj q2
          clear q2
          obtain ⟨q5, q6⟩ := Prod.mk.inj q4
          clear q4
          subst q1
          subst q3
          subst q5
          subst q6
          exact ⟨⟨rfl, rfl, by first | rfl | simp only [SQ, hb3, hb4, n1, n2, n3, n4, n5, n6]⟩, s9.sel [1, 0, 5, 4, 3] (by decide)⟩
        ·
          rw [if_neg (by rw [hb4]; decide)] at kj1
          refine U_condF (by simp only [SQ, hb3, hb4, n1, n2, n3, n4, n5, n6]) ?_
          refine U_skip ?_
          replace kj1 := Option.some.inj kj1
          obtain ⟨q7, q8⟩ := Prod.mk.inj kj1
          clear kj1
          obtain ⟨q9, q10⟩ := Prod.mk.inj q8
          clear q8
          obtain ⟨q11, q12⟩ := Prod.mk.inj q10
          clear q10
          subst q7
          subst q9
          subst q11
          subst q12
          exact ⟨⟨rfl, rfl, by first | rfl | simp only [SQ, hb3, hb4, n1, n2, n3, n4, n5, n6]⟩, s6.sel [1, 0, 5, 4, 3] (by decide)⟩
      ·
        rintro a2 H6 ⟨f2, s8⟩
        refine U_fi f2 ?_
        refine U_seq ?_
        refine U_reg ?_
        simp only [SQ, ty58, s8.b 1 rfl, ty23, hb3, n1, n2, n3, n4, n5, n6]
        refine N_sl ([(⟨c2, c3, c4, c5⟩ : Opd)] : List Opd) R58i s8 rfl rfl (by first | rfl | simp only [SQ]) (by first | rfl | simp only [List.length_map, List.length_replicate]) (zip_flat rfl) ?_
        intro v1 H8 s10
        simp only [SQ, ty66, s10.cf 0 rfl, fk66, s10.b 1 rfl, hb3, n1, n2, n3, n4, n5, n6]
        refine N_put 1 s10 rfl fun H9 s11 => ?_
        simp only [SQ, hb3, n1, n2, n3, n4, n5, n6]
        refine hold_intro ?_
        refine U_ret ?_
        replace h := Option.some.inj h
        subst h
        have s12 := s11.fold [3, 4, 5, 0, 1, 2] 3 (by decide) (fold_x (R := R125t4st2sie7sie) (x := m_1) rfl (R125t4st2sie7sie_f (x := m_1)))
        have s13 := s12.nil' R9i
        have s14 := s13.nil' R3i
        exact ⟨.agg [.int .i64 23, .int .i64 0, .int .i64 0, .int .i64 0, .int .i64 0, v1, .str (⟨#[]⟩ : ByteArray), .int .i64 0, .nils, .nils], by simp only [ires, iress, Try.results91, SQ, List.toList_toArray, s11.b 1 rfl, ty66, hb3, n1, n2, n3, n4, n5, n6], _, ⟨_, _, _, rfl, rfl⟩, s14.sel [2, 3, 1, 0] (by decide)⟩
    ·
      rw [if_neg (by rw [hb3]; decide)] at h
      refine U_condF (by simp only [SQ, hb3, n1, n2, n3, n4, n5, n6]) ?_
      refine U_skip ?_
      refine U_seq ?_
      refine U_fr 119 [(2, .int .i64 i_1), (3, .int .i64 nv_1), (5, .pb d2 0 0), (8, .pb d3 0 0), (9, .pb d4 0 0)] rfl rfl rfl ?_
      obtain ⟨r3, kr3, h⟩ := bndO h
      refine U_reg ?_
      simp only [SQ, ty122, ty5, s6.b 2 rfl, sDBl, hb3, n1, n2, n3, n4, n5, n6]
      refine callP (w_dyehouseref12_goal kr3) ?_
      simp only [SQ, hb3, n1, n2, n3, n4, n5, n6]
      refine hold_intro ?_
      refine U_seq ?_
      refine U_fr 119 [(2, .int .i64 i_1), (3, .int .i64 nv_1), (5, .pb d2 0 0), (8, .pb d3 0 0), (9, .pb d4 0 0), (10, .str r3)] rfl rfl rfl ?_
      obtain ⟨next_1, kj2, h⟩ := bndO h
      refine U_cut (fun a' H' => Fi a' 119 [(3, .int .i64 nv_1), (5, .pb d2 0 0), (8, .pb d3 0 0), (9, .pb d4 0 0), (10, .str next_1)] ∧ HS F [pt d2 ⟨5, [eDBl d_1]⟩, pt d3 ⟨10, [[.int .i64 0, .int .i64 0, .int .i64 0, .int .i64 0, .int .i64 0, .nils, .str (⟨#[]⟩ : ByteArray), .int .i64 0, .nils, .nils]]⟩, pt d4 ⟨4, [eOpd r1]⟩, pt d1 ⟨8, [[.bool m_1.f.machine, .str m_1.f.name, .sim (m_1.f.regs.map eRg) false, .sim (m_1.f.params.map eOpd) false, w1, .sim (m_1.ids.a0.map eInt) false, .sim (m_1.ids.a1.map eInt) false, w2]]⟩, sl R63t2sie w1 m_1.f.blocks, sl R3i w2 m_1.has] H') ?_ ?_
      ·
        refine U_seq ?_
        refine U_reg ?_
        simp only [SQ, hb3, n1, n2, n3, n4, n5, n6]
        refine hold_intro ?_
        rcases Bool.eq_false_or_eq_true (decide (i_1 < (IntKind.wrap .i64 (nv_1 - 1)))) with hb5 | hb5
        ·
          rw [if_pos hb5] at kj2
          refine U_condT (by simp only [SQ, hb3, hb5, n1, n2, n3, n4, n5, n6]) ?_
          obtain ⟨r4, kr4, kj2⟩ := bndO kj2
          refine U_reg ?_
          simp only [SQ, hb3, hb5, n1, n2, n3, n4, n5, n6]
          refine callP (w_dyehouseref12_label kr4) ?_
          simp only [SQ, hb3, hb5, n1, n2, n3, n4, n5, n6]
          refine hold_intro ?_
          replace kj2 := Option.some.inj kj2
          subst kj2
          exact ⟨⟨rfl, rfl, by first | rfl | simp only [SQ, hb3, hb5, n1, n2, n3, n4, n5, n6]⟩, s6.sel [2, 1, 0, 5, 4, 3] (by decide)⟩
        ·
          rw [if_neg (by rw [hb5]; decide)] at kj2
          refine U_condF (by simp only [SQ, hb3, hb5, n1, n2, n3, n4, n5, n6]) ?_
          refine U_skip ?_
          replace kj2 := Option.some.inj kj2
          subst kj2
          exact ⟨⟨rfl, rfl, by first | rfl | simp only [SQ, hb3, hb5, n1, n2, n3, n4, n5, n6]⟩, s6.sel [2, 1, 0, 5, 4, 3] (by decide)⟩
      ·
        rintro a3 H10 ⟨f3, s15⟩
        refine U_fi f3 ?_
        refine U_seq ?_
        obtain ⟨u1, kj3, h⟩ := bndE h
        refine U_cut (fun a' H' => u1 = .n () ∧ Fi a' 119 [(8, .pb d3 0 0), (10, .str next_1)] ∧ HS F [pt d3 ⟨10, [[.int .i64 0, .int .i64 0, .int .i64 0, .int .i64 0, .int .i64 0, .nils, .str (⟨#[]⟩ : ByteArray), .int .i64 0, .nils, .nils]]⟩, pt d1 ⟨8, [[.bool m_1.f.machine, .str m_1.f.name, .sim (m_1.f.regs.map eRg) false, .sim (m_1.f.params.map eOpd) false, w1, .sim (m_1.ids.a0.map eInt) false, .sim (m_1.ids.a1.map eInt) false, w2]]⟩, sl R63t2sie w1 m_1.f.blocks, sl R3i w2 m_1.has] H') ?_ ?_
        ·
          refine U_seq ?_
          refine U_reg ?_
          simp only [SQ, ty122, ty5, s15.b 0 rfl, sDBl, hb3, n1, n2, n3, n4, n5, n6]
          refine hold_intro ?_
          refine U_block ?_
          refine U_seq ?_
          refine U_fr 119 [(3, .int .i64 nv_1), (5, .pb d2 0 0), (8, .pb d3 0 0), (9, .pb d4 0 0), (10, .str next_1), (54, .int .u8 (Int.tmod d_1.term 4))] rfl rfl rfl ?_
          obtain ⟨x_1, kj4, kj3⟩ := bndO kj3
          refine U_cut (fun a' H' => Fi a' 119 [(3, .int .i64 nv_1), (5, .pb d2 0 0), (8, .pb d3 0 0), (9, .pb d4 0 0), (10, .str next_1), (54, .int .u8 (Int.tmod d_1.term 4)), (55, .bool x_1)] ∧ HS F [pt d2 ⟨5, [eDBl d_1]⟩, pt d3 ⟨10, [[.int .i64 0, .int .i64 0, .int .i64 0, .int .i64 0, .int .i64 0, .nils, .str (⟨#[]⟩ : ByteArray), .int .i64 0, .nils, .nils]]⟩, pt d4 ⟨4, [eOpd r1]⟩, pt d1 ⟨8, [[.bool m_1.f.machine, .str m_1.f.name, .sim (m_1.f.regs.map eRg) false, .sim (m_1.f.params.map eOpd) false, w1, .sim (m_1.ids.a0.map eInt) false, .sim (m_1.ids.a1.map eInt) false, w2]]⟩, sl R63t2sie w1 m_1.f.blocks, sl R3i w2 m_1.has] H') ?_ ?_
          ·
            refine U_seq ?_
            refine U_reg ?_
            simp only [SQ, hb3, n1, n2, n3, n4, n5, n6]
            refine hold_intro ?_
            rcases Bool.eq_false_or_eq_true (decide ((Int.tmod d_1.term 4) = 0)) with hb6 | hb6
            ·
              rw [if_pos hb6] at kj4
              refine U_condT (by simp only [SQ, hb3, hb6, n1, n2, n3, n4, n5, n6]) ?_
              refine U_skip ?_
              replace kj4 := Option.some.inj kj4
              subst kj4
              exact ⟨⟨rfl, rfl, by first | rfl | simp only [SQ, hb3, hb6, n1, n2, n3, n4, n5, n6]⟩, s15⟩
            ·
              rw [if_neg (by rw [hb6]; decide)] at kj4
              refine U_condF (by simp only [SQ, hb3, hb6, n1, n2, n3, n4, n5, n6]) ?_
              refine U_reg ?_
              simp only [SQ, hb3, hb6, n1, n2, n3, n4, n5, n6]
              refine hold_intro ?_
              replace kj4 := Option.some.inj kj4
              subst kj4
              exact ⟨⟨rfl, rfl, by first | rfl | simp only [SQ, hb3, hb6, n1, n2, n3, n4, n5, n6]⟩, s15⟩
          ·
            rintro a5 H12 ⟨f5, s17⟩
            refine U_fi f5 ?_
            rcases Bool.eq_false_or_eq_true (x_1) with hb7 | hb7
            ·
              rw [if_pos hb7] at kj3
              refine U_condT (by simp only [SQ, hb3, hb7, n1, n2, n3, n4, n5, n6]) ?_
              refine U_seq ?_
              refine U_seq ?_
              refine U_reg ?_
              simp only [SQ, ty122, ty5, s17.b 0 rfl, sDBl, hb3, hb7, n1, n2, n3, n4, n5, n6]
              refine hold_intro ?_
              rcases Bool.eq_false_or_eq_true (decide ((Int.tmod d_1.term 8) < 4)) with hb8 | hb8
              ·
                rw [if_pos hb8] at kj3
                refine U_condT (by simp only [SQ, hb3, hb7, hb8, n1, n2, n3, n4, n5, n6]) ?_
                refine U_seq ?_
                obtain ⟨r5, kr5, kj3⟩ := bndO kj3
                refine U_drawQ hm [0, 1, 0, 0, 8, 0, 56, 124, 255, 511] false 8 (by decide +kernel) (by decide) ?_
                simp only [SQ, ty58, s17.b 2 rfl, sOpd, ty23, hb3, hb7, hb8, n1, n2, n3, n4, n5, n6]
                refine N_sl ([r1] : List Opd) R58i s17 rfl rfl (by first | rfl | simp only [SQ]) (by first | rfl | simp only [List.length_map, List.length_replicate]) (zip_flat rfl) ?_
                intro v2 H13 s18
                simp only [SQ, ty122, ty5, s18.b 1 rfl, sDBl, hb3, hb7, hb8, n1, n2, n3, n4, n5, n6]
                refine callP (w_dyehouseref12_goal kr5) ?_
                simp only [SQ, ty64, ty9, hb3, hb7, hb8, n1, n2, n3, n4, n5, n6]
                refine N_sl ([next_1, r5] : List ByteArray) R9i s18 rfl rfl (by first | rfl | simp only [SQ]) (by first | rfl | simp only [List.length_map, List.length_replicate]) (zip_flat rfl) ?_
                intro v3 H14 s19
                simp only [SQ, ty66, s19.cf 1 rfl, s19.cf 0 rfl, fk66, s19.b 3 rfl, hb3, hb7, hb8, n1, n2, n3, n4, n5, n6]
                refine N_put 3 s19 rfl fun H15 s20 => ?_
                simp only [SQ, hb3, hb7, hb8, n1, n2, n3, n4, n5, n6]
                refine hold_intro ?_
                refine U_ret ?_
                replace kj3 := Option.some.inj kj3
                subst kj3
                replace h := outE_r h
                replace h := Option.some.inj h
                subst h
                have s21 := s20.fold [5, 6, 7, 0, 1, 2, 3, 4] 3 (by decide) (fold_x (R := R125t4st2sie7sie) (x := m_1) rfl (R125t4st2sie7sie_f (x := m_1)))
                have s22 := s21.nil' R3i
                exact ⟨.agg [.int .i64 21, .int .i64 0, .int .i64 0, .int .i64 0, .int .i64 0, v2, .str (⟨#[]⟩ : ByteArray), .int .i64 0, v3, .nils], by simp only [ires, iress, Try.results91, SQ, List.toList_toArray, s20.b 3 rfl, ty66, hb3, hb7, hb8, n1, n2, n3, n4, n5, n6], _, ⟨_, _, _, rfl, rfl⟩, s22.sel [1, 3, 2, 0] (by decide)⟩
              ·
                rw [if_neg (by rw [hb8]; decide)] at kj3
                refine U_condF (by simp only [SQ, hb3, hb7, hb8, n1, n2, n3, n4, n5, n6]) ?_
                refine U_skip ?_
                refine U_seq ?_
                refine U_fr 119 [(3, .int .i64 nv_1), (5, .pb d2 0 0), (8, .pb d3 0 0), (9, .pb d4 0 0), (10, .str next_1)] rfl rfl rfl ?_
                obtain ⟨r6, kr6, kj3⟩ := bndO kj3
                refine U_drawQ hm [0, 1, 0, 4, 0, 28, 0, 124, 255, 511] false 8 (by decide +kernel) (by decide) ?_
                simp only [SQ, ty58, s17.b 2 rfl, sOpd, ty23, hb3, hb7, hb8, n1, n2, n3, n4, n5, n6]
                refine N_sl ([r1] : List Opd) R58i s17 rfl rfl (by first | rfl | simp only [SQ]) (by first | rfl | simp only [List.length_map, List.length_replicate]) (zip_flat rfl) ?_
                intro v4 H16 s23
                simp only [SQ, ty122, ty5, s23.b 1 rfl, sDBl, hb3, hb7, hb8, n1, n2, n3, n4, n5, n6]
                refine callP (w_dyehouseref12_goal kr6) ?_
                simp only [SQ, ty64, ty9, hb3, hb7, hb8, n1, n2, n3, n4, n5, n6]
                refine N_sl ([r6, next_1] : List ByteArray) R9i s23 rfl rfl (by first | rfl | simp only [SQ]) (by first | rfl | simp only [List.length_map, List.length_replicate]) (zip_flat rfl) ?_
                intro v5 H17 s24
                simp only [SQ, ty66, s24.cf 1 rfl, s24.cf 0 rfl, fk66, s24.b 3 rfl, hb3, hb7, hb8, n1, n2, n3, n4, n5, n6]
                refine N_put 3 s24 rfl fun H18 s25 => ?_
                simp only [SQ, hb3, hb7, hb8, n1, n2, n3, n4, n5, n6]
                refine hold_intro ?_
                refine U_ret ?_
                replace kj3 := Option.some.inj kj3
                subst kj3
                replace h := outE_r h
                replace h := Option.some.inj h
                subst h
                have s26 := s25.fold [5, 6, 7, 0, 1, 2, 3, 4] 3 (by decide) (fold_x (R := R125t4st2sie7sie) (x := m_1) rfl (R125t4st2sie7sie_f (x := m_1)))
                have s27 := s26.nil' R3i
                exact ⟨.agg [.int .i64 21, .int .i64 0, .int .i64 0, .int .i64 0, .int .i64 0, v4, .str (⟨#[]⟩ : ByteArray), .int .i64 0, v5, .nils], by simp only [ires, iress, Try.results91, SQ, List.toList_toArray, s25.b 3 rfl, ty66, hb3, hb7, hb8, n1, n2, n3, n4, n5, n6], _, ⟨_, _, _, rfl, rfl⟩, s27.sel [1, 3, 2, 0] (by decide)⟩
            ·
              rw [if_neg (by rw [hb7]; decide)] at kj3
              refine U_condF (by simp only [SQ, hb3, hb7, n1, n2, n3, n4, n5, n6]) ?_
              refine U_seq ?_
              refine U_reg ?_
              simp only [SQ, hb3, hb7, n1, n2, n3, n4, n5, n6]
              refine hold_intro ?_
              rcases Bool.eq_false_or_eq_true (decide ((Int.tmod d_1.term 4) = 2)) with hb9 | hb9
              ·
                rw [if_pos hb9] at kj3
                refine U_condT (by simp only [SQ, hb3, hb7, hb9, n1, n2, n3, n4, n5, n6]) ?_
                refine U_seq ?_
                obtain ⟨r7, kr7, kj3⟩ := bndO kj3
                refine U_drawQ hm [0, 1, 0, 4, 12, 28, 60, 0, 128, 0, 896, 0, 2048, 0, 16256, 0, 65408, 131071, 0, 524287] false 19 (by decide +kernel) (by decide) ?_
                simp only [SQ, ty58, s17.b 2 rfl, sOpd, ty23, hb3, hb7, hb9, n1, n2, n3, n4, n5, n6]
                refine N_sl ([r1] : List Opd) R58i s17 rfl rfl (by first | rfl | simp only [SQ]) (by first | rfl | simp only [List.length_map, List.length_replicate]) (zip_flat rfl) ?_
                intro v6 H19 s28
                simp only [SQ, ty122, ty5, s28.b 1 rfl, sDBl, conv_int ty5 ty3 rfl, ty37, ty3, hb3, hb7, hb9, n1, n2, n3, n4, n5, n6]
                refine N_sl ([Int.tmod (IntKind.wrap .i64 d_1.a) 3, 5] : List Int) R3i s28 rfl rfl (by first | rfl | simp only [SQ]) (by first | rfl | simp only [List.length_map, List.length_replicate]) (zip_flat rfl) ?_
                intro v7 H20 s29
                simp only [SQ, ty122, ty5, s29.b 2 rfl, sDBl, hb3, hb7, hb9, n1, n2, n3, n4, n5, n6]
                refine callP (w_dyehouseref12_goal kr3) ?_
                simp only [SQ, ty122, ty5, s29.b 2 rfl, sDBl, hb3, hb7, hb9, n1, n2, n3, n4, n5, n6]
                refine callP (w_dyehouseref12_goal kr7) ?_
                simp only [SQ, ty64, ty9, hb3, hb7, hb9, n1, n2, n3, n4, n5, n6]
                refine N_sl ([r3, r7, next_1] : List ByteArray) R9i s29 rfl rfl (by first | rfl | simp only [SQ]) (by first | rfl | simp only [List.length_map, List.length_replicate]) (zip_flat rfl) ?_
                intro v8 H21 s30
                simp only [SQ, ty66, s30.cf 2 rfl, s30.cf 1 rfl, s30.cf 0 rfl, fk66, hb3, hb7, hb9, n1, n2, n3, n4, n5, n6]
                refine N_box s30 rfl fun d13 H22 s31 => ?_
                simp only [SQ, ty66, s31.cf 3 rfl, s31.cf 1 rfl, s31.cf 2 rfl, s31.b 0 rfl, hb3, hb7, hb9, n1, n2, n3, n4, n5, n6]
                refine N_put 0 s31 rfl fun H23 s32 => ?_
                simp only [SQ, hb3, hb7, hb9, n1, n2, n3, n4, n5, n6]
                refine hold_intro ?_
                refine U_seq ?_
                refine U_fr 119 [(3, .int .i64 nv_1), (5, .pb d2 0 0), (8, .pb d3 0 0), (10, .str next_1), (11, .pb d13 0 0)] rfl rfl rfl ?_
                obtain ⟨⟨c6, c7⟩, kj5, kj3⟩ := bndO kj3
                dsimp only at kj3
                refine U_cut (fun a' H' => ∃ v9 : IV, ∃ v10 : IV, Fi a' 119 [(8, .pb d3 0 0), (11, .pb d13 0 0)] ∧ HS F [pt d13 ⟨10, [[.int .i64 22, .int .i64 0, .int .i64 0, .int .i64 0, .int .i64 0, v6, .str (⟨#[]⟩ : ByteArray), .int .i64 0, v9, v10]]⟩, sl R58i v6 ([r1] : List Opd), sl R9i v9 c6, sl R3i v10 c7, pt d3 ⟨10, [[.int .i64 0, .int .i64 0, .int .i64 0, .int .i64 0, .int .i64 0, .nils, .str (⟨#[]⟩ : ByteArray), .int .i64 0, .nils, .nils]]⟩, pt d1 ⟨8, [[.bool m_1.f.machine, .str m_1.f.name, .sim (m_1.f.regs.map eRg) false, .sim (m_1.f.params.map eOpd) false, w1, .sim (m_1.ids.a0.map eInt) false, .sim (m_1.ids.a1.map eInt) false, w2]]⟩, sl R63t2sie w1 m_1.f.blocks, sl R3i w2 m_1.has] H') ?_ ?_
                ·
                  refine U_seq ?_
                  refine U_reg ?_
                  simp only [SQ, ty122, ty5, s32.b 4 rfl, sDBl, hb3, hb7, hb9, n1, n2, n3, n4, n5, n6]
                  refine hold_intro ?_
                  rcases Bool.eq_false_or_eq_true (decide ((Int.tmod d_1.v 2) = 0)) with hb10 | hb10
                  ·
                    rw [if_pos hb10] at kj5
                    refine U_condT (by simp only [SQ, hb3, hb7, hb9, hb10, n1, n2, n3, n4, n5, n6]) ?_
                    obtain ⟨l1, kl1, kj5⟩ := bndO kj5
                    refine U_drawQ hm [0, 1, 3, 0, 8, 0, 56, 0, 248, 7, 639, 2047, 4095] false 11 (by decide +kernel) (by decide) ?_
                    obtain ⟨v11, v11_f, s34⟩ := s32.sli (P := Try.prog) 2 rfl ty37 rfl ty3 rfl (bnds0 kl1) kl1
                    simp only [SQ, ty66, ty37, s32.b 0 rfl, v11_f, ty122, ty5, s34.b 4 rfl, sDBl, hb3, hb7, hb9, hb10, n1, n2, n3, n4, n5, n6]
                    refine callP (w_dyehouseref12_goal kr7) ?_
                    simp only [SQ, ty64, ty9, hb3, hb7, hb9, hb10, n1, n2, n3, n4, n5, n6]
                    refine N_sl ([r7, next_1] : List ByteArray) R9i s34 rfl rfl (by first | rfl | simp only [SQ]) (by first | rfl | simp only [List.length_map, List.length_replicate]) (zip_flat rfl) ?_
                    intro v12 H25 s35
                    simp only [SQ, ty66, ty37, s35.cf 1 rfl, s35.b 2 rfl, hb3, hb7, hb9, hb10, n1, n2, n3, n4, n5, n6]
                    refine N_put 2 s35 rfl fun H26 s36 => ?_
                    simp only [SQ, ty66, ty64, s36.cf 0 rfl, s36.b 2 rfl, hb3, hb7, hb9, hb10, n1, n2, n3, n4, n5, n6]
                    refine N_put 2 s36 rfl fun H27 s37 => ?_
                    simp only [SQ, hb3, hb7, hb9, hb10, n1, n2, n3, n4, n5, n6]
                    refine hold_intro ?_
                    replace kj5 := Option.some.inj kj5
                    obtain ⟨q13, q14⟩ := Prod.mk.inj kj5
                    clear kj5
                    subst q13
                    subst q14
                    exact ⟨_, _, ⟨rfl, rfl, by first | rfl | simp only [SQ, hb3, hb7, hb9, hb10, n1, n2, n3, n4, n5, n6]⟩, s37.sel [2, 4, 0, 1, 6, 8, 9, 10] (by decide)⟩
                  ·
                    rw [if_neg (by rw [hb10]; decide)] at kj5
                    refine U_condF (by simp only [SQ, hb3, hb7, hb9, hb10, n1, n2, n3, n4, n5, n6]) ?_
                    refine U_skip ?_
                    replace kj5 := Option.some.inj kj5
                    obtain ⟨q15, q16⟩ := Prod.mk.inj kj5
                    clear kj5
                    subst q15
                    subst q16
                    exact ⟨_, _, ⟨rfl, rfl, by first | rfl | simp only [SQ, hb3, hb7, hb9, hb10, n1, n2, n3, n4, n5, n6]⟩, s32.sel [0, 3, 1, 2, 5, 7, 8, 9] (by decide)⟩
                ·
                  rintro a6 H24 ⟨v9, v10, f6, s33⟩
                  refine U_fi f6 ?_
                  refine U_seq ?_
                  refine U_reg ?_
                  simp only [SQ, ty66, s33.b 0 rfl, s33.cf 1 rfl, s33.cf 2 rfl, s33.cf 3 rfl, s33.b 4 rfl, hb3, hb7, hb9, n1, n2, n3, n4, n5, n6]
                  refine N_put 4 s33 rfl fun H28 s38 => ?_
                  simp only [SQ, hb3, hb7, hb9, n1, n2, n3, n4, n5, n6]
                  refine hold_intro ?_
                  refine U_ret ?_
                  replace kj3 := Option.some.inj kj3
                  subst kj3
                  replace h := outE_r h
                  replace h := Option.some.inj h
                  subst h
                  have s39 := s38.fold [5, 6, 7, 0, 1, 2, 3, 4] 3 (by decide) (fold_x (R := R125t4st2sie7sie) (x := m_1) rfl (R125t4st2sie7sie_f (x := m_1)))
                  exact ⟨.agg [.int .i64 22, .int .i64 0, .int .i64 0, .int .i64 0, .int .i64 0, v6, .str (⟨#[]⟩ : ByteArray), .int .i64 0, v9, v10], by simp only [ires, iress, Try.results91, SQ, List.toList_toArray, s38.b 4 rfl, ty66, hb3, hb7, hb9, n1, n2, n3, n4, n5, n6], _, ⟨_, _, _, rfl, rfl⟩, s39.sel [0, 2, 3, 4] (by decide)⟩
              ·
                rw [if_neg (by rw [hb9]; decide)] at kj3
                refine U_condF (by simp only [SQ, hb3, hb7, hb9, n1, n2, n3, n4, n5, n6]) ?_
                refine U_skip ?_
                replace kj3 := Option.some.inj kj3
                subst kj3
                exact ⟨rfl, ⟨rfl, rfl, by first | rfl | simp only [SQ, hb3, hb7, hb9, n1, n2, n3, n4, n5, n6]⟩, s17.sel [1, 3, 4, 5] (by decide)⟩
        ·
          rintro a4 H11 ⟨rfl, f4, s16⟩
          replace h := outE_n h
          refine U_fi f4 ?_
          refine U_seq ?_
          refine U_reg ?_
          simp only [SQ, ty64, ty9, hb3, n1, n2, n3, n4, n5, n6]
          refine N_sl ([next_1] : List ByteArray) R9i s16 rfl rfl (by first | rfl | simp only [SQ]) (by first | rfl | simp only [List.length_map, List.length_replicate]) (zip_flat rfl) ?_
          intro v13 H29 s40
          simp only [SQ, ty66, s40.cf 0 rfl, fk66, s40.b 1 rfl, hb3, n1, n2, n3, n4, n5, n6]
          refine N_put 1 s40 rfl fun H30 s41 => ?_
          simp only [SQ, hb3, n1, n2, n3, n4, n5, n6]
          refine hold_intro ?_
          refine U_ret ?_
          replace h := Option.some.inj h
          subst h
          have s42 := s41.fold [2, 3, 4, 0, 1] 3 (by decide) (fold_x (R := R125t4st2sie7sie) (x := m_1) rfl (R125t4st2sie7sie_f (x := m_1)))
          have s43 := s42.nil' R58i
          have s44 := s43.nil' R3i
          exact ⟨.agg [.int .i64 20, .int .i64 0, .int .i64 0, .int .i64 0, .int .i64 0, .nils, .str (⟨#[]⟩ : ByteArray), .int .i64 0, v13, .nils], by simp only [ires, iress, Try.results91, SQ, List.toList_toArray, s41.b 1 rfl, ty66, hb3, n1, n2, n3, n4, n5, n6], _, ⟨_, _, _, rfl, rfl⟩, s44.sel [2, 1, 3, 0] (by decide)⟩

theorem w_dyehouseref12_Make {fuel : Nat} {d_1 : Drf} {r0_ : Fnc} (h : p_dyehouseref12_Make fuel d_1 = some r0_) : Pure1 Try.prog 31 [.agg (eDrf d_1)] (.agg (eFnc r0_)) := by
  refine Pure1_S (all_cl (cl_agg (cl_eDrf _)) all_cl0) fun F H s0 => ?_
  refine U_call 0 Try.func31 rfl (by kernel_rfl) (by simp [Try.ntmps31]) ?_
  rw [Try.ntmps31]
  refine U_fr 249 [(0, .agg (eDrf d_1))] rfl rfl rfl ?_
  unfold p_dyehouseref12_Make at h
  refine U_seq ?_
  refine U_reg ?_
  simp only [SQ, ty54, sDrf, n1, n2, n3, n4, n5, n6]
  refine N_box s0 rfl fun d1 H1 s1 => ?_
  simp only [SQ, ty26, n1, n2, n3, n4, n5, n6]
  refine N_box s1 rfl fun d2 H2 s2 => ?_
  simp only [SQ, n1, n2, n3, n4, n5, n6]
  refine hold_intro ?_
  refine U_seq ?_
  refine U_reg ?_
  simp only [SQ, ty26, fk26, ty125, fk125, n1, n2, n3, n4, n5, n6]
  refine N_box s2 rfl fun d3 H3 s3 => ?_
  simp only [SQ, n1, n2, n3, n4, n5, n6]
  refine hold_intro ?_
  refine U_seq ?_
  refine U_reg ?_
  simp only [SQ, ty54, ty5, s3.b 2 rfl, sDrf, conv_int ty5 ty3 rfl, ty41, ty3, fk41, n1, n2, n3, n4, n5, n6]
  refine N_box s3 rfl fun d4 H4 s4 => ?_
  simp only [SQ, ty41, s4.b 0 rfl, n1, n2, n3, n4, n5, n6]
  refine N_put 0 s4 rfl fun H5 s5 => ?_
  simp only [SQ, n1, n2, n3, n4, n5, n6]
  refine hold_intro ?_
  refine U_seq ?_
  refine U_seq ?_
  refine U_fr 249 [(1, .pb d1 0 0), (2, .pb d2 0 0), (3, .pb d3 0 0), (4, .pb d4 0 0)] rfl rfl rfl ?_
  refine U_reg ?_
  simp only [SQ, n1, n2, n3, n4, n5, n6]
  refine hold_intro ?_
  refine U_fr 249 [(1, .pb d1 0 0), (2, .pb d2 0 0), (3, .pb d3 0 0), (4, .pb d4 0 0), (5, .int .i64 0)] rfl rfl rfl ?_
  obtain ⟨⟨c3, c4⟩, he1, h⟩ := bndO h
  dsimp only at h
  obtain ⟨hhi1, hlo1, he1⟩ := toN_facts he1
  have s8 := s5.nil' R3i
  have s9 := s8.nil' R3i
  refine U_cut (fun a' H' => ∃ v1 : IV, ∃ v2 : IV, Fi a' 249 [(1, .pb d1 0 0), (2, .pb d2 0 0), (3, .pb d3 0 0), (4, .pb d4 0 0)] ∧ HS F [pt d1 ⟨4, [eDrf d_1]⟩, pt d2 ⟨5, [[.bool false, .str (⟨#[]⟩ : ByteArray), .nils, .nils, .nils]]⟩, pt d3 ⟨8, [[.bool false, .str (⟨#[102]⟩ : ByteArray), .nils, .nils, .nils, v1, v2, .nils]]⟩, sl R3i v1 c3, sl R3i v2 c4, pt d4 ⟨2, [[.int .i64 (IntKind.wrap .i64 (1 + (Int.tmod (IntKind.wrap .i64 d_1.g) 6))), .int .i64 (IntKind.wrap .i64 (1 + (Int.tmod (IntKind.wrap .i64 d_1.x) 3)))]]⟩] H') (U_block (U_loop (fun z_ a' H' => match z_ with | (i1, c1, c2) => forN (2 - i1).toNat i1 (fun i s => p_dyehouseref12_Make_b1 fuel d_1 i s.1 s.2) (c1, c2) = some (c3, c4) ∧ 0 ≤ i1 ∧ ∃ v1 : IV, ∃ v2 : IV, Fi a' 249 [(1, .pb d1 0 0), (2, .pb d2 0 0), (3, .pb d3 0 0), (4, .pb d4 0 0), (5, .int .i64 i1)] ∧ HS F [pt d1 ⟨4, [eDrf d_1]⟩, pt d2 ⟨5, [[.bool false, .str (⟨#[]⟩ : ByteArray), .nils, .nils, .nils]]⟩, pt d3 ⟨8, [[.bool false, .str (⟨#[102]⟩ : ByteArray), .nils, .nils, .nils, v1, v2, .nils]]⟩, sl R3i v1 c1, sl R3i v2 c2, pt d4 ⟨2, [[.int .i64 (IntKind.wrap .i64 (1 + (Int.tmod (IntKind.wrap .i64 d_1.g) 6))), .int .i64 (IntKind.wrap .i64 (1 + (Int.tmod (IntKind.wrap .i64 d_1.x) 3)))]]⟩] H' : (Int × (List Int) × (List Int)) → Fr → Heap → Prop) (fun z_ : Int × (List Int) × (List Int) => (2 - z_.1).toNat) (0, ([] : List Int), ([] : List Int)) ?_ ?_)) ?_
  · exact ⟨he1, Int.le_refl _, _, _, ⟨rfl, rfl, rfl⟩, s9.sel [5, 4, 3, 1, 0, 2] (by decide)⟩
  ·
    rintro ⟨i1, c1, c2⟩ a1 H6 ⟨hf1, hl1, v1, v2, f1, s10⟩
    refine U_fi f1 ?_
    by_cases hlt1 : i1 < 2
    ·
      obtain ⟨u2, hr1, hl2⟩ := forN_step hf1 hlt1
      replace hr1 : p_dyehouseref12_Make_b1 fuel d_1 i1 c1 c2 = some u2 := hr1
      unfold p_dyehouseref12_Make_b1 at hr1
      have hw1 := wrap_next hlt1 hhi1 hlo1 hl1
      have hlt1_t : decide (i1 < 2) = true := decide_eq_true hlt1
      refine U_seq (U_seq ?_)
      refine U_reg ?_
      simp only [SQ, hw1, hlt1_t, n1, n2, n3, n4, n5, n6]
      refine hold_intro ?_
      refine U_condT (by simp only [SQ, hw1, hlt1_t, n1, n2, n3, n4, n5, n6]) (U_skip ?_)
      refine U_seq ?_
      refine U_block ?_
      refine U_seq ?_
      refine U_reg ?_
      simp only [SQ, hw1, hlt1_t, n1, n2, n3, n4, n5, n6]
      refine hold_intro ?_
      refine U_fr 249 [(1, .pb d1 0 0), (2, .pb d2 0 0), (3, .pb d3 0 0), (4, .pb d4 0 0), (5, .int .i64 i1), (6, .int .i64 0)] rfl rfl rfl ?_
      obtain ⟨u3, he2, hr1⟩ := bndE hr1
      refine U_cut (fun a' H' => ∃ c5 : List Int, ∃ c6 : List Int, ∃ i_1 : Int, u3 = .n (c5, c6, i_1) ∧ ∃ v5 : IV, ∃ v6 : IV, Fi a' 249 [(1, .pb d1 0 0), (2, .pb d2 0 0), (3, .pb d3 0 0), (4, .pb d4 0 0), (5, .int .i64 i1)] ∧ HS F [pt d1 ⟨4, [eDrf d_1]⟩, pt d2 ⟨5, [[.bool false, .str (⟨#[]⟩ : ByteArray), .nils, .nils, .nils]]⟩, pt d3 ⟨8, [[.bool false, .str (⟨#[102]⟩ : ByteArray), .nils, .nils, .nils, v5, v6, .nils]]⟩, sl R3i v5 c5, sl R3i v6 c6, pt d4 ⟨2, [[.int .i64 (IntKind.wrap .i64 (1 + (Int.tmod (IntKind.wrap .i64 d_1.g) 6))), .int .i64 (IntKind.wrap .i64 (1 + (Int.tmod (IntKind.wrap .i64 d_1.x) 3)))]]⟩] H') (U_block (U_loop (fun z_ a' H' => match z_ with | (m1, c5, c6, i_1) => loopE m1 (fun s => p_dyehouseref12_Make_b2 fuel d_1 i1 s.1 s.2.1 s.2.2) (c5, c6, i_1) = some u3 ∧ ∃ v5 : IV, ∃ v6 : IV, Fi a' 249 [(1, .pb d1 0 0), (2, .pb d2 0 0), (3, .pb d3 0 0), (4, .pb d4 0 0), (5, .int .i64 i1), (6, .int .i64 i_1)] ∧ HS F [pt d1 ⟨4, [eDrf d_1]⟩, pt d2 ⟨5, [[.bool false, .str (⟨#[]⟩ : ByteArray), .nils, .nils, .nils]]⟩, pt d3 ⟨8, [[.bool false, .str (⟨#[102]⟩ : ByteArray), .nils, .nils, .nils, v5, v6, .nils]]⟩, sl R3i v5 c5, sl R3i v6 c6, pt d4 ⟨2, [[.int .i64 (IntKind.wrap .i64 (1 + (Int.tmod (IntKind.wrap .i64 d_1.g) 6))), .int .i64 (IntKind.wrap .i64 (1 + (Int.tmod (IntKind.wrap .i64 d_1.x) 3)))]]⟩] H' : (Nat × (List Int) × (List Int) × Int) → Fr → Heap → Prop) (fun z_ : Nat × (List Int) × (List Int) × Int => z_.1) (fuel, c1, c2, 0) ?_ ?_)) ?_
      · exact ⟨he2, _, _, ⟨rfl, rfl, by first | rfl | simp only [SQ, hw1, hlt1_t, n1, n2, n3, n4, n5, n6]⟩, s10⟩
      ·
        rintro ⟨m1, c5, c6, i_1⟩ a2 H7 ⟨hf2, v5, v6, f2, s11⟩
        refine U_fi f2 ?_
        obtain ⟨m1', m1_lt, u4, hr2, hl4⟩ := loopE_step hf2
        replace hr2 : p_dyehouseref12_Make_b2 fuel d_1 i1 c5 c6 i_1 = some u4 := hr2
        unfold p_dyehouseref12_Make_b2 at hr2
        refine U_seq ?_
        refine U_seq ?_
        obtain ⟨c9, kc9, hr2⟩ := bndO hr2
        refine U_cut (fun a' H' => Fi a' 249 [(1, .pb d1 0 0), (2, .pb d2 0 0), (3, .pb d3 0 0), (4, .pb d4 0 0), (5, .int .i64 i1), (6, .int .i64 i_1), (39, .bool (decide (i_1 < ((⟨IntKind.wrap .i64 (1 + (Int.tmod (IntKind.wrap .i64 d_1.g) 6)), IntKind.wrap .i64 (1 + (Int.tmod (IntKind.wrap .i64 d_1.x) 3))⟩ : A2 Int).at c9))))] ∧ H7 = H') ?_ ?_
        · refine U_reg ?_
          rcases c9 with _ | _
          ·
            try simp only [A2_at_t, A2_at_f] at *
            simp only [SQ, ty41, ty3, iia_arrV (P := Try.prog) (jn := 0) (m := 0) (ix2_f kc9 rfl) ty41 rfl ty3 (by decide) rfl, s11.b 5 rfl, hw1, hlt1_t, n1, n2, n3, n4, n5, n6]
            refine hold_intro ?_
            exact ⟨⟨rfl, rfl, by first | rfl | simp only [SQ, hw1, hlt1_t, n1, n2, n3, n4, n5, n6]⟩, rfl⟩
          ·
            try simp only [A2_at_t, A2_at_f] at *
            simp only [SQ, ty41, ty3, iia_arrV (P := Try.prog) (jn := 1) (m := 1) (ix2_t kc9 rfl) ty41 rfl ty3 (by decide) rfl, s11.b 5 rfl, hw1, hlt1_t, n1, n2, n3, n4, n5, n6]
            refine hold_intro ?_
            exact ⟨⟨rfl, rfl, by first | rfl | simp only [SQ, hw1, hlt1_t, n1, n2, n3, n4, n5, n6]⟩, rfl⟩
        · rintro a3 _ ⟨f3, rfl⟩
          refine U_fi f3 ?_
          rcases Bool.eq_false_or_eq_true (decide (i_1 < ((⟨IntKind.wrap .i64 (1 + (Int.tmod (IntKind.wrap .i64 d_1.g) 6)), IntKind.wrap .i64 (1 + (Int.tmod (IntKind.wrap .i64 d_1.x) 3))⟩ : A2 Int).at c9))) with hb1 | hb1
          ·
            rw [if_pos hb1] at hr2
            refine U_condT (by simp only [SQ, hw1, hlt1_t, hb1, n1, n2, n3, n4, n5, n6]) ?_
            refine U_skip ?_
            refine U_seq ?_
            refine U_block ?_
            refine U_fr 249 [(1, .pb d1 0 0), (2, .pb d2 0 0), (3, .pb d3 0 0), (4, .pb d4 0 0), (5, .int .i64 i1), (6, .int .i64 i_1)] rfl rfl rfl ?_
            obtain ⟨⟨c10, c11⟩, kj1, hr2⟩ := bndO hr2
            dsimp only at hr2
            refine U_cut (fun a' H' => ∃ v9 : IV, ∃ v10 : IV, Fi a' 249 [(1, .pb d1 0 0), (2, .pb d2 0 0), (3, .pb d3 0 0), (4, .pb d4 0 0), (5, .int .i64 i1), (6, .int .i64 i_1)] ∧ HS F [pt d1 ⟨4, [eDrf d_1]⟩, pt d2 ⟨5, [[.bool false, .str (⟨#[]⟩ : ByteArray), .nils, .nils, .nils]]⟩, pt d3 ⟨8, [[.bool false, .str (⟨#[102]⟩ : ByteArray), .nils, .nils, .nils, v9, v10, .nils]]⟩, sl R3i v9 c10, sl R3i v10 c11, pt d4 ⟨2, [[.int .i64 (IntKind.wrap .i64 (1 + (Int.tmod (IntKind.wrap .i64 d_1.g) 6))), .int .i64 (IntKind.wrap .i64 (1 + (Int.tmod (IntKind.wrap .i64 d_1.x) 3)))]]⟩] H') ?_ ?_
            ·
              obtain ⟨c12, kc12, kj1⟩ := bndO kj1
              rcases c12 with _ | _
              ·
                have hj1 : i1 = 0 := ix2_f kc12 rfl
                rw [if_neg (by decide)] at kj1
                obtain ⟨l1, kl1, kj1⟩ := bndO kj1
                refine U_drawQ hm [0, 0, 0, 0, 4, 20, 60, 124, 0, 256, 0, 1792, 3840, 8188, 1, 16385, 65535, 131071] false 16 (by decide +kernel) (by decide) ?_
                simp only [SQ, ty125, ty88, ty37, iia_arrV (P := Try.prog) (jn := 0) (m := 0) hj1 ty88 rfl ty37 (by decide) rfl, s11.b 2 rfl, ty3, hw1, hlt1_t, hb1, n1, n2, n3, n4, n5, n6]
                refine N_sl ([IntKind.wrap .i64 ((IntKind.wrap .i64 (2 * i_1)) + i1)] : List Int) R3i s11 rfl rfl (by first | rfl | simp only [SQ]) (by first | rfl | simp only [List.length_map, List.length_replicate]) (zip_flat rfl) ?_
                intro v11 H10 s14
                simp only [SQ, ty37, ty3, hw1, hlt1_t, hb1, n1, n2, n3, n4, n5, n6]
                refine N_app (xs := c5) (ys := ([IntKind.wrap .i64 ((IntKind.wrap .i64 (2 * i_1)) + i1)] : List Int)) 4 s14 rfl rfl ty37 rfl ty37 rfl ty3 rfl rfl rfl (by decide) rfl (s14.srowsi 0 rfl) kl1 (fun _ _ e0 _ _ _ _ e => by cases e0; simp only [SQ, s14.nev 4 0 rfl rfl (by decide) e, s14.nes 4 1 rfl rfl (by decide) e, s14.nes 4 2 rfl rfl (by decide) e, s14.nes 4 3 rfl rfl (by decide) e, s14.nev 4 5 rfl rfl (by decide) e, s14.nes 4 6 rfl rfl (by decide) e, hw1, hlt1_t, hb1, n1, n2, n3, n4, n5, n6]) ?_
                intro v12 H11 s15
                simp only [SQ, ty125, ty88, ty37, iia_arrV (P := Try.prog) (jn := 0) (m := 0) hj1 ty88 rfl ty37 (by decide) rfl, s15.cf 0 rfl, s15.b 4 rfl, hw1, hlt1_t, hb1, n1, n2, n3, n4, n5, n6]
                refine N_put 4 s15 rfl fun H12 s16 => ?_
                simp only [SQ, hw1, hlt1_t, hb1, n1, n2, n3, n4, n5, n6]
                refine hold_intro ?_
                replace kj1 := Option.some.inj kj1
                obtain ⟨q1, q2⟩ := Prod.mk.inj kj1
                clear kj1
                subst q1
                subst q2
                exact ⟨_, _, ⟨rfl, rfl, by first | rfl | simp only [SQ, hw1, hlt1_t, hb1, n1, n2, n3, n4, n5, n6]⟩, s16.sel [2, 3, 4, 0, 5, 6] (by decide)⟩
              ·
                have hj2 : i1 = 1 := ix2_t kc12 rfl
                rw [if_pos rfl] at kj1
                obtain ⟨l2, kl2, kj1⟩ := bndO kj1
                refine U_drawQ hm [0, 0, 0, 0, 4, 20, 60, 124, 0, 256, 0, 1792, 3840, 8188, 1, 16385, 65535, 131071] false 16 (by decide +kernel) (by decide) ?_
                simp only [SQ, ty125, ty88, ty37, iia_arrV (P := Try.prog) (jn := 1) (m := 1) hj2 ty88 rfl ty37 (by decide) rfl, s11.b 2 rfl, ty3, hw1, hlt1_t, hb1, n1, n2, n3, n4, n5, n6]
                refine N_sl ([IntKind.wrap .i64 ((IntKind.wrap .i64 (2 * i_1)) + i1)] : List Int) R3i s11 rfl rfl (by first | rfl | simp only [SQ]) (by first | rfl | simp only [List.length_map, List.length_replicate]) (zip_flat rfl) ?_
                intro v13 H13 s17
                simp only [SQ, ty37, ty3, hw1, hlt1_t, hb1, n1, n2, n3, n4, n5, n6]
                refine N_app (xs := c6) (ys := ([IntKind.wrap .i64 ((IntKind.wrap .i64 (2 * i_1)) + i1)] : List Int)) 5 s17 rfl rfl ty37 rfl ty37 rfl ty3 rfl rfl rfl (by decide) rfl (s17.srowsi 0 rfl) kl2 (fun _ _ e0 _ _ _ _ e => by cases e0; simp only [SQ, s17.nev 5 0 rfl rfl (by decide) e, s17.nes 5 1 rfl rfl (by decide) e, s17.nes 5 2 rfl rfl (by decide) e, s17.nes 5 3 rfl rfl (by decide) e, s17.nev 5 4 rfl rfl (by decide) e, s17.nes 5 6 rfl rfl (by decide) e, hw1, hlt1_t, hb1, n1, n2, n3, n4, n5, n6]) ?_
                intro v14 H14 s18
                simp only [SQ, ty125, ty88, ty37, iia_arrV (P := Try.prog) (jn := 1) (m := 1) hj2 ty88 rfl ty37 (by decide) rfl, s18.cf 0 rfl, s18.b 4 rfl, hw1, hlt1_t, hb1, n1, n2, n3, n4, n5, n6]
                refine N_put 4 s18 rfl fun H15 s19 => ?_
                simp only [SQ, hw1, hlt1_t, hb1, n1, n2, n3, n4, n5, n6]
                refine hold_intro ?_
                replace kj1 := Option.some.inj kj1
                obtain ⟨q3, q4⟩ := Prod.mk.inj kj1
                clear kj1
                subst q3
                subst q4
                exact ⟨_, _, ⟨rfl, rfl, by first | rfl | simp only [SQ, hw1, hlt1_t, hb1, n1, n2, n3, n4, n5, n6]⟩, s19.sel [2, 3, 4, 5, 0, 6] (by decide)⟩
            ·
              rintro a4 H9 ⟨v9, v10, f4, s13⟩
              refine U_fi f4 ?_
              refine U_reg ?_
              simp only [SQ, hw1, hlt1_t, hb1, n1, n2, n3, n4, n5, n6]
              refine hold_intro ?_
              replace hr2 := Option.some.inj hr2
              subst hr2
              exact ⟨(m1', c10, c11, IntKind.wrap .i64 (i_1 + 1)), m1_lt, hl4, _, _, ⟨rfl, rfl, by first | rfl | simp only [SQ, hw1, hlt1_t, hb1, n1, n2, n3, n4, n5, n6]⟩, s13⟩
          ·
            rw [if_neg (by rw [hb1]; decide)] at hr2
            refine U_condF (by simp only [SQ, hw1, hlt1_t, hb1, n1, n2, n3, n4, n5, n6]) ?_
            refine U_exit rfl ?_
            replace hr2 := Option.some.inj hr2
            subst hr2
            exact ⟨_, _, _, hl4, _, _, ⟨rfl, rfl, by first | rfl | simp only [SQ, hw1, hlt1_t, hb1, n1, n2, n3, n4, n5, n6]⟩, s11⟩
      ·
        rintro a5 H16 ⟨c7, c8, i_2, rfl, v7, v8, f5, s20⟩
        replace hr1 := outE_n hr1
        dsimp only at hr1
        refine U_fi f5 ?_
        refine U_reg ?_
        simp only [SQ, hw1, hlt1_t, n1, n2, n3, n4, n5, n6]
        refine hold_intro ?_
        replace hr1 := Option.some.inj hr1
        subst hr1
        refine ⟨(i1 + 1, c7, c8), ?_, hl2, Int.le_add_one hl1, _, _, ⟨rfl, rfl, by first | rfl | simp only [SQ, hw1, hlt1_t, n1, n2, n3, n4, n5, n6]⟩, s20⟩
        show (2 - (i1 + 1)).toNat < (2 - i1).toNat; omega
    ·
      have hlt1_e := forN_end hf1 hlt1
      have hlt1_t : decide (i1 < 2) = false := decide_eq_false hlt1
      refine U_seq (U_seq ?_)
      refine U_reg ?_
      simp only [SQ, hlt1_t, n1, n2, n3, n4, n5, n6]
      refine hold_intro ?_
      refine U_condF (by simp only [SQ, hlt1_t, n1, n2, n3, n4, n5, n6]) (U_exit rfl ?_)
      cases hlt1_e
      exact ⟨_, _, ⟨rfl, rfl, by first | rfl | simp only [SQ, hlt1_t, n1, n2, n3, n4, n5, n6]⟩, s10⟩
  ·
    rintro a6 H17 ⟨v3, v4, f6, s21⟩
    refine U_fi f6 ?_
    refine U_seq ?_
    refine U_seq ?_
    refine U_reg ?_
    simp only [SQ, n1, n2, n3, n4, n5, n6]
    refine hold_intro ?_
    refine U_fr 249 [(1, .pb d1 0 0), (2, .pb d2 0 0), (3, .pb d3 0 0), (4, .pb d4 0 0), (7, .int .i64 0)] rfl rfl rfl ?_
    obtain ⟨c14, he3, h⟩ := bndO h
    obtain ⟨hhi3, hlo3, he3⟩ := toN_facts he3
    have s23 := s21.nil' R84i
    refine U_cut (fun a' H' => ∃ v15 : IV, Fi a' 249 [(1, .pb d1 0 0), (2, .pb d2 0 0), (3, .pb d3 0 0)] ∧ HS F [pt d1 ⟨4, [eDrf d_1]⟩, pt d2 ⟨5, [[.bool false, .str (⟨#[]⟩ : ByteArray), .nils, .nils, .nils]]⟩, pt d3 ⟨8, [[.bool false, .str (⟨#[102]⟩ : ByteArray), v15, .nils, .nils, v3, v4, .nils]]⟩, sl R84i v15 c14, sl R3i v3 c3, sl R3i v4 c4, pt d4 ⟨2, [[.int .i64 (IntKind.wrap .i64 (1 + (Int.tmod (IntKind.wrap .i64 d_1.g) 6))), .int .i64 (IntKind.wrap .i64 (1 + (Int.tmod (IntKind.wrap .i64 d_1.x) 3)))]]⟩] H') (U_block (U_loop (fun z_ a' H' => match z_ with | (i3, c13) => forN (12 - i3).toNat i3 (fun i s => p_dyehouseref12_Make_b3 fuel d_1 i s) c13 = some c14 ∧ 0 ≤ i3 ∧ ∃ v15 : IV, Fi a' 249 [(1, .pb d1 0 0), (2, .pb d2 0 0), (3, .pb d3 0 0), (4, .pb d4 0 0), (7, .int .i64 i3)] ∧ HS F [pt d1 ⟨4, [eDrf d_1]⟩, pt d2 ⟨5, [[.bool false, .str (⟨#[]⟩ : ByteArray), .nils, .nils, .nils]]⟩, pt d3 ⟨8, [[.bool false, .str (⟨#[102]⟩ : ByteArray), v15, .nils, .nils, v3, v4, .nils]]⟩, sl R84i v15 c13, sl R3i v3 c3, sl R3i v4 c4, pt d4 ⟨2, [[.int .i64 (IntKind.wrap .i64 (1 + (Int.tmod (IntKind.wrap .i64 d_1.g) 6))), .int .i64 (IntKind.wrap .i64 (1 + (Int.tmod (IntKind.wrap .i64 d_1.x) 3)))]]⟩] H' : (Int × (List Rg)) → Fr → Heap → Prop) (fun z_ : Int × (List Rg) => (12 - z_.1).toNat) (0, ([] : List Rg)) ?_ ?_)) ?_
    · exact ⟨he3, Int.le_refl _, _, ⟨rfl, rfl, rfl⟩, s23.sel [1, 2, 3, 0, 4, 5, 6] (by decide)⟩
    ·
      rintro ⟨i3, c13⟩ a7 H18 ⟨hf3, hl5, v15, f7, s24⟩
      refine U_fi f7 ?_
      by_cases hlt3 : i3 < 12
      ·
        obtain ⟨u6, hr3, hl6⟩ := forN_step hf3 hlt3
        replace hr3 : p_dyehouseref12_Make_b3 fuel d_1 i3 c13 = some u6 := hr3
        unfold p_dyehouseref12_Make_b3 at hr3
        have hw2 := wrap_next hlt3 hhi3 hlo3 hl5
        have hlt3_t : decide (i3 < 12) = true := decide_eq_true hlt3
        refine U_seq (U_seq ?_)
        refine U_reg ?_
        simp only [SQ, hw2, hlt3_t, n1, n2, n3, n4, n5, n6]
        refine hold_intro ?_
        refine U_condT (by simp only [SQ, hw2, hlt3_t, n1, n2, n3, n4, n5, n6]) (U_skip ?_)
        refine U_seq ?_
        refine U_block ?_
        refine U_seq ?_
        refine U_reg ?_
        simp only [SQ, hw2, hlt3_t, n1, n2, n3, n4, n5, n6]
        refine hold_intro ?_
        refine U_seq ?_
        refine U_fr 249 [(1, .pb d1 0 0), (2, .pb d2 0 0), (3, .pb d3 0 0), (4, .pb d4 0 0), (7, .int .i64 i3), (8, .int .i64 (Int.tmod i3 2))] rfl rfl rfl ?_
        obtain ⟨c15, kc15, hr3⟩ := bndO hr3
        refine U_cut (fun a' H' => Fi a' 249 [(1, .pb d1 0 0), (2, .pb d2 0 0), (3, .pb d3 0 0), (4, .pb d4 0 0), (7, .int .i64 i3), (8, .int .i64 (Int.tmod i3 2)), (70, .bool (decide ((IntKind.wrap .i64 (Int.tdiv i3 2)) < ((⟨IntKind.wrap .i64 (1 + (Int.tmod (IntKind.wrap .i64 d_1.g) 6)), IntKind.wrap .i64 (1 + (Int.tmod (IntKind.wrap .i64 d_1.x) 3))⟩ : A2 Int).at c15))))] ∧ H18 = H') ?_ ?_
        · refine U_reg ?_
          rcases c15 with _ | _
          ·
            try simp only [A2_at_t, A2_at_f] at *
            simp only [SQ, ty41, ty3, iia_arrV (P := Try.prog) (jn := 0) (m := 0) (ix2_f kc15 rfl) ty41 rfl ty3 (by decide) rfl, s24.b 6 rfl, hw2, hlt3_t, n1, n2, n3, n4, n5, n6]
            refine hold_intro ?_
            exact ⟨⟨rfl, rfl, by first | rfl | simp only [SQ, hw2, hlt3_t, n1, n2, n3, n4, n5, n6]⟩, rfl⟩
          ·
            try simp only [A2_at_t, A2_at_f] at *
            simp only [SQ, ty41, ty3, iia_arrV (P := Try.prog) (jn := 1) (m := 1) (ix2_t kc15 rfl) ty41 rfl ty3 (by decide) rfl, s24.b 6 rfl, hw2, hlt3_t, n1, n2, n3, n4, n5, n6]
            refine hold_intro ?_
            exact ⟨⟨rfl, rfl, by first | rfl | simp only [SQ, hw2, hlt3_t, n1, n2, n3, n4, n5, n6]⟩, rfl⟩
        · rintro a8 _ ⟨f8, rfl⟩
          refine U_fi f8 ?_
          rcases Bool.eq_false_or_eq_true (decide ((IntKind.wrap .i64 (Int.tdiv i3 2)) < ((⟨IntKind.wrap .i64 (1 + (Int.tmod (IntKind.wrap .i64 d_1.g) 6)), IntKind.wrap .i64 (1 + (Int.tmod (IntKind.wrap .i64 d_1.x) 3))⟩ : A2 Int).at c15))) with hb2 | hb2
          ·
            rw [if_pos hb2] at hr3
            refine U_condT (by simp only [SQ, hw2, hlt3_t, hb2, n1, n2, n3, n4, n5, n6]) ?_
            obtain ⟨l3, kl3, hr3⟩ := bndO hr3
            refine U_reg ?_
            simp only [SQ, ty125, ty26, ty22, s24.b 2 rfl, ty84, fk84, hw2, hlt3_t, hb2, n1, n2, n3, n4, n5, n6]
            refine N_sl ([(⟨i3, Int.tmod i3 2⟩ : Rg)] : List Rg) R84i s24 rfl rfl (by first | rfl | simp only [SQ]) (by first | rfl | simp only [List.length_map, List.length_replicate]) (zip_flat rfl) ?_
            intro v17 H20 s26
            simp only [SQ, ty22, ty84, hw2, hlt3_t, hb2, n1, n2, n3, n4, n5, n6]
            refine N_app (xs := c13) (ys := ([(⟨i3, Int.tmod i3 2⟩ : Rg)] : List Rg)) 4 s26 rfl rfl ty22 rfl ty22 rfl ty84 rfl rfl rfl (by decide) rfl (s26.srowsi 0 rfl) kl3 (fun _ _ e => by cases e) ?_
            intro v18 H21 s27
            simp only [SQ, ty125, ty26, ty22, s27.cf 0 rfl, s27.b 4 rfl, hw2, hlt3_t, hb2, n1, n2, n3, n4, n5, n6]
            refine N_put 4 s27 rfl fun H22 s28 => ?_
            simp only [SQ, hw2, hlt3_t, hb2, n1, n2, n3, n4, n5, n6]
            refine hold_intro ?_
            refine U_reg ?_
            simp only [SQ, hw2, hlt3_t, hb2, n1, n2, n3, n4, n5, n6]
            refine hold_intro ?_
            replace hr3 := Option.some.inj hr3
            subst hr3
            refine ⟨(i3 + 1, l3), ?_, hl6, Int.le_add_one hl5, _, ⟨rfl, rfl, by first | rfl | simp only [SQ, hw2, hlt3_t, hb2, n1, n2, n3, n4, n5, n6]⟩, s28.sel [2, 3, 4, 0, 5, 6, 7] (by decide)⟩
            show (12 - (i3 + 1)).toNat < (12 - i3).toNat; omega
          ·
            rw [if_neg (by rw [hb2]; decide)] at hr3
            refine U_condF (by simp only [SQ, hw2, hlt3_t, hb2, n1, n2, n3, n4, n5, n6]) ?_
            refine U_skip ?_
            refine U_reg ?_
            simp only [SQ, hw2, hlt3_t, hb2, n1, n2, n3, n4, n5, n6]
            refine hold_intro ?_
            replace hr3 := Option.some.inj hr3
            subst hr3
            refine ⟨(i3 + 1, c13), ?_, hl6, Int.le_add_one hl5, _, ⟨rfl, rfl, by first | rfl | simp only [SQ, hw2, hlt3_t, hb2, n1, n2, n3, n4, n5, n6]⟩, s24⟩
            show (12 - (i3 + 1)).toNat < (12 - i3).toNat; omega
      ·
        have hlt3_e := forN_end hf3 hlt3
        have hlt3_t : decide (i3 < 12) = false := decide_eq_false hlt3
        refine U_seq (U_seq ?_)
        refine U_reg ?_
        simp only [SQ, hlt3_t, n1, n2, n3, n4, n5, n6]
        refine hold_intro ?_
        refine U_condF (by simp only [SQ, hlt3_t, n1, n2, n3, n4, n5, n6]) (U_exit rfl ?_)
        cases hlt3_e
        exact ⟨_, ⟨rfl, rfl, by first | rfl | simp only [SQ, hlt3_t, n1, n2, n3, n4, n5, n6]⟩, s24⟩
    ·
      rintro a9 H23 ⟨v16, f9, s29⟩
      refine U_fi f9 ?_
      refine U_seq ?_
      refine U_reg ?_
      simp only [SQ, n1, n2, n3, n4, n5, n6]
      refine hold_intro ?_
      refine U_seq ?_
      refine U_seq ?_
      refine U_reg ?_
      simp only [SQ, n1, n2, n3, n4, n5, n6]
      refine hold_intro ?_
      refine U_fr 249 [(1, .pb d1 0 0), (2, .pb d2 0 0), (3, .pb d3 0 0), (9, .nils), (10, .int .i64 0)] rfl rfl rfl ?_
      obtain ⟨u7, he4, h⟩ := bndE h
      have s33 := s29.nil' R58i
      have s34 := s33.nil' R3i
      have s35 := s34.nil' R66t5si8si9sie
      refine U_cut (fun a' H' => ∃ i_3 : Int, ∃ c16 : List Opd, ∃ c17 : List Int, ∃ code_1 : List Ins, u7 = .n (i_3, c16, c17, code_1) ∧ ∃ v19 : IV, ∃ v20 : IV, ∃ v21 : IV, Fi a' 249 [(1, .pb d1 0 0), (2, .pb d2 0 0), (3, .pb d3 0 0), (9, v21)] ∧ HS F [pt d1 ⟨4, [eDrf d_1]⟩, pt d2 ⟨5, [[.bool false, .str (⟨#[]⟩ : ByteArray), .nils, .nils, .nils]]⟩, pt d3 ⟨8, [[.bool false, .str (⟨#[102]⟩ : ByteArray), v16, v19, .nils, v3, v4, v20]]⟩, sl R84i v16 c14, sl R58i v19 c16, sl R3i v3 c3, sl R3i v4 c4, sl R3i v20 c17, sl R66t5si8si9sie v21 code_1] H') (U_block (U_loop (fun z_ a' H' => match z_ with | (m2, i_3, c16, c17, code_1) => loopE m2 (fun s => p_dyehouseref12_Make_b4 fuel d_1 c14 s.1 s.2.1 s.2.2.1 s.2.2.2) (i_3, c16, c17, code_1) = some u7 ∧ ∃ v19 : IV, ∃ v20 : IV, ∃ v21 : IV, Fi a' 249 [(1, .pb d1 0 0), (2, .pb d2 0 0), (3, .pb d3 0 0), (9, v21), (10, .int .i64 i_3)] ∧ HS F [pt d1 ⟨4, [eDrf d_1]⟩, pt d2 ⟨5, [[.bool false, .str (⟨#[]⟩ : ByteArray), .nils, .nils, .nils]]⟩, pt d3 ⟨8, [[.bool false, .str (⟨#[102]⟩ : ByteArray), v16, v19, .nils, v3, v4, v20]]⟩, sl R84i v16 c14, sl R58i v19 c16, sl R3i v3 c3, sl R3i v4 c4, sl R3i v20 c17, sl R66t5si8si9sie v21 code_1] H' : (Nat × Int × (List Opd) × (List Int) × (List Ins)) → Fr → Heap → Prop) (fun z_ : Nat × Int × (List Opd) × (List Int) × (List Ins) => z_.1) (fuel, 0, ([] : List Opd), ([] : List Int), ([] : List Ins)) ?_ ?_)) ?_
      · exact ⟨he4, _, _, _, ⟨rfl, rfl, rfl⟩, s35.sel [3, 4, 5, 6, 2, 7, 8, 1, 0] (by decide)⟩
      ·
        rintro ⟨m2, i_3, c16, c17, code_1⟩ a10 H24 ⟨hf4, v19, v20, v21, f10, s36⟩
        refine U_fi f10 ?_
        obtain ⟨m2', m2_lt, u8, hr4, hl8⟩ := loopE_step hf4
        replace hr4 : p_dyehouseref12_Make_b4 fuel d_1 c14 i_3 c16 c17 code_1 = some u8 := hr4
        unfold p_dyehouseref12_Make_b4 at hr4
        refine U_seq ?_
        refine U_seq ?_
        refine U_reg ?_
        simp only [SQ, ty125, ty26, ty22, s36.b 2 rfl, s36.len (P := Try.prog) 3 rfl ty22 rfl, n1, n2, n3, n4, n5, n6]
        refine hold_intro ?_
        rcases Bool.eq_false_or_eq_true (decide (i_3 < (c14.length : Int))) with hb3 | hb3
        ·
          rw [if_pos hb3] at hr4
          refine U_condT (by simp only [SQ, hb3, n1, n2, n3, n4, n5, n6]) ?_
          refine U_skip ?_
          refine U_seq ?_
          refine U_fr 249 [(1, .pb d1 0 0), (2, .pb d2 0 0), (3, .pb d3 0 0), (9, v21), (10, .int .i64 i_3)] rfl rfl rfl ?_
          obtain ⟨⟨c20, c21, code_3⟩, kj2, hr4⟩ := bndO hr4
          dsimp only at hr4
          refine U_cut (fun a' H' => ∃ v25 : IV, ∃ v26 : IV, ∃ v27 : IV, Fi a' 249 [(1, .pb d1 0 0), (2, .pb d2 0 0), (3, .pb d3 0 0), (9, v27), (10, .int .i64 i_3)] ∧ HS F [pt d1 ⟨4, [eDrf d_1]⟩, pt d2 ⟨5, [[.bool false, .str (⟨#[]⟩ : ByteArray), .nils, .nils, .nils]]⟩, pt d3 ⟨8, [[.bool false, .str (⟨#[102]⟩ : ByteArray), v16, v25, .nils, v3, v4, v26]]⟩, sl R84i v16 c14, sl R58i v25 c20, sl R3i v3 c3, sl R3i v4 c4, sl R3i v26 c21, sl R66t5si8si9sie v27 code_3] H') ?_ ?_
          ·
            refine U_block ?_
            refine U_seq ?_
            obtain ⟨x1, kx1, kj2⟩ := bndO kj2
            refine U_reg ?_
            obtain ⟨w1_i, w1_r, w1_a, w1_1⟩ := s36.at (P := Try.prog) (k := .i64) 3 rfl ty22 rfl ty84 rfl kx1
            simp only [SQ, ty125, ty26, ty22, s36.b 2 rfl, ty84, w1_1, ty3, s36.row 3 rfl w1_a kx1, sRg, hb3, n1, n2, n3, n4, n5, n6]
            refine hold_intro ?_
            refine U_seq ?_
            refine U_fr 249 [(1, .pb d1 0 0), (2, .pb d2 0 0), (3, .pb d3 0 0), (9, v21), (10, .int .i64 i_3), (11, .int .i64 x1.id)] rfl rfl rfl ?_
            obtain ⟨x2, kx2, kj2⟩ := bndO kj2
            refine U_drawQ hm [0, 0, 2, 6, 0, 16, 48, 112, 240, 496, 1008, 2046, 4095] false 12 (by decide +kernel) (by decide) ?_
            simp only [SQ, ty54, ty5, s36.b 0 rfl, sDrf, conv_int ty5 ty3 rfl, ty125, ty26, ty22, s36.b 2 rfl, s36.len (P := Try.prog) 3 rfl ty22 rfl, bin_rem' kx2, hb3, n1, n2, n3, n4, n5, n6]
            refine hold_intro ?_
            rcases Bool.eq_false_or_eq_true (decide (i_3 < x2)) with hb4 | hb4
            ·
              rw [if_pos hb4] at kj2
              refine U_condT (by simp only [SQ, hb3, hb4, n1, n2, n3, n4, n5, n6]) ?_
              refine U_seq ?_
              refine U_fr 249 [(1, .pb d1 0 0), (2, .pb d2 0 0), (3, .pb d3 0 0), (9, v21), (10, .int .i64 i_3), (11, .int .i64 x1.id)] rfl rfl rfl ?_
              obtain ⟨r1, kr1, kj2⟩ := bndO kj2
              obtain ⟨l4, kl4, kj2⟩ := bndO kj2
              refine U_drawQ hm [0, 0, 2, 6, 14, 30, 0, 64, 192, 510, 1023, 2047, 4095, 8191] false 10 (by decide +kernel) (by decide) ?_
              simp only [SQ, ty125, ty26, ty23, s36.b 2 rfl, hb3, hb4, n1, n2, n3, n4, n5, n6]
              refine callP (w_dyehouseref12_vreg kr1) ?_
              simp only [SQ, ty23, ty58, sOpd, hb3, hb4, n1, n2, n3, n4, n5, n6]
              refine N_sl ([r1] : List Opd) R58i s36 rfl rfl (by first | rfl | simp only [SQ]) (by first | rfl | simp only [List.length_map, List.length_replicate]) (zip_flat rfl) ?_
              intro v28 H26 s38
              simp only [SQ, ty23, ty58, hb3, hb4, n1, n2, n3, n4, n5, n6]
              refine N_app (xs := c16) (ys := ([r1] : List Opd)) 5 s38 rfl rfl ty23 rfl ty23 rfl ty58 rfl rfl rfl (by decide) rfl (s38.srowsi 0 rfl) kl4 (fun _ _ e0 _ _ _ _ e => by cases e0; simp only [SQ, s38.nev 5 0 rfl rfl (by decide) e, s38.nes 5 1 rfl rfl (by decide) e, s38.nes 5 2 rfl rfl (by decide) e, s38.nes 5 3 rfl rfl (by decide) e, s38.nev 5 4 rfl rfl (by decide) e, s38.nev 5 6 rfl rfl (by decide) e, s38.nev 5 7 rfl rfl (by decide) e, s38.nev 5 8 rfl rfl (by decide) e, s38.nev 5 9 rfl rfl (by decide) e, hb3, hb4, n1, n2, n3, n4, n5, n6]) ?_
              intro v29 H27 s39
              simp only [SQ, ty125, ty26, ty23, s39.cf 0 rfl, s39.b 4 rfl, hb3, hb4, n1, n2, n3, n4, n5, n6]
              refine N_put 4 s39 rfl fun H28 s40 => ?_
              simp only [SQ, hb3, hb4, n1, n2, n3, n4, n5, n6]
              refine hold_intro ?_
              refine U_fr 249 [(1, .pb d1 0 0), (2, .pb d2 0 0), (3, .pb d3 0 0), (9, v21), (10, .int .i64 i_3), (11, .int .i64 x1.id)] rfl rfl rfl ?_
              obtain ⟨l5, kl5, kj2⟩ := bndO kj2
              refine U_reg ?_
              simp only [SQ, ty125, ty37, s40.b 4 rfl, ty3, hb3, hb4, n1, n2, n3, n4, n5, n6]
              refine N_sl ([x1.id] : List Int) R3i s40 rfl rfl (by first | rfl | simp only [SQ]) (by first | rfl | simp only [List.length_map, List.length_replicate]) (zip_flat rfl) ?_
              intro v30 H29 s41
              simp only [SQ, ty37, ty3, hb3, hb4, n1, n2, n3, n4, n5, n6]
              refine N_app (xs := c17) (ys := ([x1.id] : List Int)) 9 s41 rfl rfl ty37 rfl ty37 rfl ty3 rfl rfl rfl (by decide) rfl (s41.srowsi 0 rfl) kl5 (fun _ _ e => by cases e) ?_
              intro v31 H30 s42
              simp only [SQ, ty125, ty37, s42.cf 0 rfl, s42.b 6 rfl, hb3, hb4, n1, n2, n3, n4, n5, n6]
              refine N_put 6 s42 rfl fun H31 s43 => ?_
              simp only [SQ, hb3, hb4, n1, n2, n3, n4, n5, n6]
              refine hold_intro ?_
              replace kj2 := Option.some.inj kj2
              obtain ⟨q5, q6⟩ := Prod.mk.inj kj2
              clear kj2
              obtain ⟨q7, q8⟩ := Prod.mk.inj q6
              clear q6
              subst q5
              subst q7
              subst q8
              exact ⟨_, _, _, ⟨rfl, rfl, by first | rfl | simp only [SQ, hb3, hb4, n1, n2, n3, n4, n5, n6]⟩, s43.sel [4, 5, 6, 7, 2, 8, 9, 0, 10] (by decide)⟩
            ·
              rw [if_neg (by rw [hb4]; decide)] at kj2
              refine U_condF (by simp only [SQ, hb3, hb4, n1, n2, n3, n4, n5, n6]) ?_
              refine U_seq ?_
              refine U_fr 249 [(1, .pb d1 0 0), (2, .pb d2 0 0), (3, .pb d3 0 0), (9, v21), (10, .int .i64 i_3), (11, .int .i64 x1.id)] rfl rfl rfl ?_
              refine U_cut (fun a' H' => Fi a' 249 [(1, .pb d1 0 0), (2, .pb d2 0 0), (3, .pb d3 0 0), (9, v21), (10, .int .i64 i_3), (11, .int .i64 x1.id), (152, .bool ((decide (i_3 < 2)) || (decide ((IntKind.wrap .i64 (i_3 + 2)) < (c14.length : Int)))))] ∧ H24 = H') ?_ ?_
              · refine U_reg ?_
                rcases Bool.eq_false_or_eq_true (decide (i_3 < 2)) with hb5 | hb5
                ·
                  simp only [SQ, hb3, hb4, hb5, n1, n2, n3, n4, n5, n6]
                  refine hold_intro ?_
                  exact ⟨⟨rfl, rfl, by first | rfl | simp only [SQ, hb3, hb4, hb5, n1, n2, n3, n4, n5, n6]⟩, rfl⟩
                ·
                  simp only [SQ, ty125, ty26, ty22, s36.b 2 rfl, s36.len (P := Try.prog) 3 rfl ty22 rfl, hb3, hb4, hb5, n1, n2, n3, n4, n5, n6]
                  refine hold_intro ?_
                  exact ⟨⟨rfl, rfl, by first | rfl | simp only [SQ, hb3, hb4, hb5, n1, n2, n3, n4, n5, n6]⟩, rfl⟩
              · rintro a12 _ ⟨f12, rfl⟩
                refine U_fi f12 ?_
                rcases Bool.eq_false_or_eq_true (((decide (i_3 < 2)) || (decide ((IntKind.wrap .i64 (i_3 + 2)) < (c14.length : Int))))) with hb6 | hb6
                ·
                  rw [if_pos hb6] at kj2
                  refine U_condT (by simp only [SQ, hb3, hb4, hb6, n1, n2, n3, n4, n5, n6]) ?_
                  refine U_seq ?_
                  refine U_fr 249 [(1, .pb d1 0 0), (2, .pb d2 0 0), (3, .pb d3 0 0), (9, v21), (10, .int .i64 i_3), (11, .int .i64 x1.id)] rfl rfl rfl ?_
                  obtain ⟨r2, kr2, kj2⟩ := bndO kj2
                  obtain ⟨r3, kr3, kj2⟩ := bndO kj2
                  obtain ⟨l6, kl6, kj2⟩ := bndO kj2
                  refine U_reg ?_
                  simp only [SQ, hb3, hb4, hb6, n1, n2, n3, n4, n5, n6]
                  refine callP (w_dyehouseref12_vreg kr2) ?_
                  simp only [SQ, hb3, hb4, hb6, n1, n2, n3, n4, n5, n6]
                  refine callP (w_dyehouseref12_imm kr3) ?_
                  simp only [SQ, ty23, ty58, sOpd, hb3, hb4, hb6, n1, n2, n3, n4, n5, n6]
                  refine N_lit s36 rfl fun d10 H33 s45 => ?_
                  simp only [SQ, ty66, xOpd, fk66, ty61, hb3, hb4, hb6, n1, n2, n3, n4, n5, n6]
                  refine N_lit s45 rfl fun d11 H34 s46 => ?_
                  have s47 := s46.fold [1, 0, 2, 3, 4, 5, 6, 7, 8, 9, 10] 1 (by decide) (fold_lit (R := R58i) (xs := ([r3] : List Opd)) rfl rfl rfl (lit_cons (fold_i rfl) lit_nil))
                  have s48 := s47.nil' R9i
                  have s49 := s48.nil' R3i
                  simp only [SQ, ty61, ty66, hb3, hb4, hb6, n1, n2, n3, n4, n5, n6]
                  refine N_appq (xs := code_1) (rows := [[.int .i64 16, .int .i64 r2.kind, .int .i64 r2.cls, .int .i64 r2.n, .int .i64 r2.tag, .sb d10 0 1 true, .str (⟨#[]⟩ : ByteArray), .int .i64 0, .nils, .nils]]) 12 s49 rfl rfl ty61 rfl ty61 rfl ty66 rfl rfl rfl (by decide) rfl (s49.rowsb 3 rfl 1 rfl true) (app_facts kl6).2 (by simp only [SQ, s49.cf 2 rfl, s49.cf 1 rfl, s49.cf 0 rfl, sIns, n1, n2, n3, n4, n5, n6]) (fun _ _ e => by cases e) ?_
                  intro v32 H35 s50
                  have s51 := s50.fold [0, 3, 2, 1, 5, 6, 7, 8, 9, 10, 11, 12] 4 (by decide) (fun p h => by have h2 := slq_one (R := R66t5si8si9sie) (y := (⟨16, r2, ([r3] : List Opd), (⟨#[]⟩ : ByteArray), 0, ([] : List ByteArray), ([] : List Int)⟩ : Ins)) (star_mono h (fun _ h => h) (fun p h => star_emp.2 ((R66t5si8si9sie_f (x := (⟨16, r2, ([r3] : List Opd), (⟨#[]⟩ : ByteArray), 0, ([] : List ByteArray), ([] : List Int)⟩ : Ins))) p h))); rw [← (app_facts kl6).1] at h2; exact h2)
                  simp only [SQ, hb3, hb4, hb6, n1, n2, n3, n4, n5, n6]
                  refine hold_intro ?_
                  obtain ⟨l7, kl7, kj2⟩ := bndO kj2
                  refine U_reg ?_
                  simp only [SQ, ty125, ty37, s51.b 3 rfl, ty3, hb3, hb4, hb6, n1, n2, n3, n4, n5, n6]
                  refine N_sl ([x1.id] : List Int) R3i s51 rfl rfl (by first | rfl | simp only [SQ]) (by first | rfl | simp only [List.length_map, List.length_replicate]) (zip_flat rfl) ?_
                  intro v33 H36 s52
                  simp only [SQ, ty37, ty3, hb3, hb4, hb6, n1, n2, n3, n4, n5, n6]
                  refine N_app (xs := c17) (ys := ([x1.id] : List Int)) 9 s52 rfl rfl ty37 rfl ty37 rfl ty3 rfl rfl rfl (by decide) rfl (s52.srowsi 0 rfl) kl7 (fun _ _ e => by cases e) ?_
                  intro v34 H37 s53
                  simp only [SQ, ty125, ty37, s53.cf 0 rfl, s53.b 5 rfl, hb3, hb4, hb6, n1, n2, n3, n4, n5, n6]
                  refine N_put 5 s53 rfl fun H38 s54 => ?_
                  simp only [SQ, hb3, hb4, hb6, n1, n2, n3, n4, n5, n6]
                  refine hold_intro ?_
                  replace kj2 := Option.some.inj kj2
                  obtain ⟨q9, q10⟩ := Prod.mk.inj kj2
                  clear kj2
                  obtain ⟨q11, q12⟩ := Prod.mk.inj q10
                  clear q10
                  subst q9
                  subst q11
                  subst q12
                  exact ⟨_, _, _, ⟨rfl, rfl, by first | rfl | simp only [SQ, hb3, hb4, hb6, n1, n2, n3, n4, n5, n6]⟩, s54.sel [3, 4, 5, 6, 7, 8, 9, 0, 2] (by decide)⟩
                ·
                  rw [if_neg (by rw [hb6]; decide)] at kj2
                  refine U_condF (by simp only [SQ, hb3, hb4, hb6, n1, n2, n3, n4, n5, n6]) ?_
                  refine U_skip ?_
                  replace kj2 := Option.some.inj kj2
                  obtain ⟨q13, q14⟩ := Prod.mk.inj kj2
                  clear kj2
                  obtain ⟨q15, q16⟩ := Prod.mk.inj q14
                  clear q14
                  subst q13
                  subst q15
                  subst q16
                  exact ⟨_, _, _, ⟨rfl, rfl, by first | rfl | simp only [SQ, hb3, hb4, hb6, n1, n2, n3, n4, n5, n6]⟩, s36⟩
          ·
            rintro a11 H25 ⟨v25, v26, v27, f11, s37⟩
            refine U_fi f11 ?_
            refine U_reg ?_
            simp only [SQ, hb3, n1, n2, n3, n4, n5, n6]
            refine hold_intro ?_
            replace hr4 := Option.some.inj hr4
            subst hr4
            exact ⟨(m2', IntKind.wrap .i64 (i_3 + 1), c20, c21, code_3), m2_lt, hl8, _, _, _, ⟨rfl, rfl, by first | rfl | simp only [SQ, hb3, n1, n2, n3, n4, n5, n6]⟩, s37⟩
        ·
          rw [if_neg (by rw [hb3]; decide)] at hr4
          refine U_condF (by simp only [SQ, hb3, n1, n2, n3, n4, n5, n6]) ?_
          refine U_exit rfl ?_
          replace hr4 := Option.some.inj hr4
          subst hr4
          exact ⟨_, _, _, _, hl8, _, _, _, ⟨rfl, rfl, by first | rfl | simp only [SQ, hb3, n1, n2, n3, n4, n5, n6]⟩, s36⟩
      ·
        rintro a13 H39 ⟨i_4, c18, c19, code_2, rfl, v22, v23, v24, f13, s55⟩
        replace h := outE_n h
        dsimp only at h
        refine U_fi f13 ?_
        refine U_seq ?_
        obtain ⟨l8, kl8, h⟩ := bndO h
        refine U_reg ?_
        simp only [SQ, ty37, ty3, n1, n2, n3, n4, n5, n6]
        refine N_sl ([] : List Int) R3i s55 rfl rfl (by first | rfl | simp only [SQ]) (by first | rfl | simp only [List.length_map, List.length_replicate]) (zip_flat rfl) ?_
        intro v35 H40 s56
        simp only [SQ, ty125, ty37, s56.b 3 rfl, ty3, n1, n2, n3, n4, n5, n6]
        refine N_app (xs := ([] : List Int)) (ys := c19) 0 s56 rfl rfl ty37 rfl ty37 rfl ty3 rfl rfl rfl (by decide) rfl (s56.srowsi 8 rfl) kl8 (fun _ _ e => by cases e) ?_
        intro v36 H41 s57
        simp only [SQ, n1, n2, n3, n4, n5, n6]
        refine hold_intro ?_
        refine U_seq ?_
        refine U_reg ?_
        simp only [SQ, ty54, ty52, s57.b 1 rfl, sDrf, len_sim ty52 rfl, n1, n2, n3, n4, n5, n6]
        refine hold_intro ?_
        refine U_seq ?_
        refine U_seq ?_
        refine U_fr 249 [(1, .pb d1 0 0), (2, .pb d2 0 0), (3, .pb d3 0 0), (9, v24), (12, v36), (13, .int .i64 (if 1 > (d_1.blocks.length : Int) then 1 else (d_1.blocks.length : Int)))] rfl rfl rfl ?_
        refine U_reg ?_
        simp only [SQ, n1, n2, n3, n4, n5, n6]
        refine hold_intro ?_
        refine U_fr 249 [(1, .pb d1 0 0), (2, .pb d2 0 0), (3, .pb d3 0 0), (9, v24), (12, v36), (13, .int .i64 (if 1 > (d_1.blocks.length : Int) then 1 else (d_1.blocks.length : Int))), (14, .int .i64 0)] rfl rfl rfl ?_
        refine U_fzS (l' := [(1, .pb d1 0 0), (2, .pb d2 0 0), (3, .pb d3 0 0), (9, v24), (12, v36), (13, .int .i64 (if 1 > (d_1.blocks.length : Int) then 1 else (d_1.blocks.length : Int))), (14, .int .i64 0)]) (M := [sl R3i v36 l8, pt d1 ⟨4, [eDrf d_1]⟩, pt d2 ⟨5, [[.bool false, .str (⟨#[]⟩ : ByteArray), .nils, .nils, .nils]]⟩, pt d3 ⟨8, [[.bool false, .str (⟨#[102]⟩ : ByteArray), .sim (c14.map eRg) false, v22, .nils, v3, v4, v23]]⟩, sl R58i v22 c18, sl R3i v3 c3, sl R3i v4 c4, sl R3i v23 c19, sl R66t5si8si9sie v24 code_2]) 4 s57 rfl R84i_nl .id (.s (.s (.s (.r (.s (.s (.x .o (.s (.s (.s (.s (.s .id)))))))) .id)))) fun H42 s58 => ?_
        refine U_fr 249 [(1, .pb d1 0 0), (2, .pb d2 0 0), (3, .pb d3 0 0), (9, v24), (12, v36), (13, .int .i64 (if 1 > (d_1.blocks.length : Int) then 1 else (d_1.blocks.length : Int))), (14, .int .i64 0)] rfl rfl rfl ?_
        refine U_fzS (l' := [(1, .pb d1 0 0), (2, .pb d2 0 0), (3, .pb d3 0 0), (9, v24), (12, v36), (13, .int .i64 (if 1 > (d_1.blocks.length : Int) then 1 else (d_1.blocks.length : Int))), (14, .int .i64 0)]) (M := [sl R3i v36 l8, pt d1 ⟨4, [eDrf d_1]⟩, pt d2 ⟨5, [[.bool false, .str (⟨#[]⟩ : ByteArray), .nils, .nils, .nils]]⟩, pt d3 ⟨8, [[.bool false, .str (⟨#[102]⟩ : ByteArray), .sim (c14.map eRg) false, .sim (c18.map eOpd) false, .nils, v3, v4, v23]]⟩, sl R3i v3 c3, sl R3i v4 c4, sl R3i v23 c19, sl R66t5si8si9sie v24 code_2]) 4 s58 rfl R58i_nl .id (.s (.s (.s (.r (.s (.s (.s (.x .o (.s (.s (.s (.s .id)))))))) .id)))) fun H43 s59 => ?_
        refine U_fr 249 [(1, .pb d1 0 0), (2, .pb d2 0 0), (3, .pb d3 0 0), (9, v24), (12, v36), (13, .int .i64 (if 1 > (d_1.blocks.length : Int) then 1 else (d_1.blocks.length : Int))), (14, .int .i64 0)] rfl rfl rfl ?_
        refine U_fzS (l' := [(1, .pb d1 0 0), (2, .pb d2 0 0), (3, .pb d3 0 0), (9, v24), (12, v36), (13, .int .i64 (if 1 > (d_1.blocks.length : Int) then 1 else (d_1.blocks.length : Int))), (14, .int .i64 0)]) (M := [sl R3i v36 l8, pt d1 ⟨4, [eDrf d_1]⟩, pt d2 ⟨5, [[.bool false, .str (⟨#[]⟩ : ByteArray), .nils, .nils, .nils]]⟩, pt d3 ⟨8, [[.bool false, .str (⟨#[102]⟩ : ByteArray), .sim (c14.map eRg) false, .sim (c18.map eOpd) false, .nils, .sim (c3.map eInt) false, v4, v23]]⟩, sl R3i v4 c4, sl R3i v23 c19, sl R66t5si8si9sie v24 code_2]) 4 s59 rfl R3i_nl .id (.s (.s (.s (.r (.s (.s (.s (.s (.s (.x .o (.s (.s .id)))))))) .id)))) fun H44 s60 => ?_
        refine U_fr 249 [(1, .pb d1 0 0), (2, .pb d2 0 0), (3, .pb d3 0 0), (9, v24), (12, v36), (13, .int .i64 (if 1 > (d_1.blocks.length : Int) then 1 else (d_1.blocks.length : Int))), (14, .int .i64 0)] rfl rfl rfl ?_
        refine U_fzS (l' := [(1, .pb d1 0 0), (2, .pb d2 0 0), (3, .pb d3 0 0), (9, v24), (12, v36), (13, .int .i64 (if 1 > (d_1.blocks.length : Int) then 1 else (d_1.blocks.length : Int))), (14, .int .i64 0)]) (M := [sl R3i v36 l8, pt d1 ⟨4, [eDrf d_1]⟩, pt d2 ⟨5, [[.bool false, .str (⟨#[]⟩ : ByteArray), .nils, .nils, .nils]]⟩, pt d3 ⟨8, [[.bool false, .str (⟨#[102]⟩ : ByteArray), .sim (c14.map eRg) false, .sim (c18.map eOpd) false, .nils, .sim (c3.map eInt) false, .sim (c4.map eInt) false, v23]]⟩, sl R3i v23 c19, sl R66t5si8si9sie v24 code_2]) 4 s60 rfl R3i_nl .id (.s (.s (.s (.r (.s (.s (.s (.s (.s (.s (.x .o (.s .id)))))))) .id)))) fun H45 s61 => ?_
        obtain ⟨⟨c30, c31, c32, c33, c34, c35, c36, c37, code_5⟩, he5, h⟩ := bndO h
        dsimp only at h
        obtain ⟨hhi5, hlo5, he5⟩ := toN_facts he5
        have s63 := s61.nil' R63t2sie
        refine U_cut (fun a' H' => ∃ d14 : Id, ∃ v37 : IV, ∃ v38 : IV, ∃ v39 : IV, Fi a' 249 [(2, .pb d2 0 0), (3, .pb d14 0 0)] ∧ HS F [pt d1 ⟨4, [eDrf d_1]⟩, sl R3i v36 l8, pt d2 ⟨5, [[.bool false, .str (⟨#[]⟩ : ByteArray), .nils, .nils, .nils]]⟩, pt d14 ⟨8, [[.bool c30, .str c31, .sim (c32.map eRg) false, .sim (c33.map eOpd) false, v37, .sim (c35.map eInt) false, .sim (c36.map eInt) false, v38]]⟩, sl R63t2sie v37 c34, sl R3i v38 c37, sl R66t5si8si9sie v39 code_5] H') (U_block (U_loop (fun z_ a' H' => match z_ with | (i5, c22, c23, c24, c25, c26, c27, c28, c29, code_4) => forN ((if 1 > (d_1.blocks.length : Int) then 1 else (d_1.blocks.length : Int)) - i5).toNat i5 (fun i s => p_dyehouseref12_Make_b5 fuel d_1 l8 i s.1 s.2.1 s.2.2.1 s.2.2.2.1 s.2.2.2.2.1 s.2.2.2.2.2.1 s.2.2.2.2.2.2.1 s.2.2.2.2.2.2.2.1 s.2.2.2.2.2.2.2.2) (c22, c23, c24, c25, c26, c27, c28, c29, code_4) = some (c30, c31, c32, c33, c34, c35, c36, c37, code_5) ∧ 0 ≤ i5 ∧ ∃ d14 : Id, ∃ v37 : IV, ∃ v38 : IV, ∃ v39 : IV, Fi a' 249 [(1, .pb d1 0 0), (2, .pb d2 0 0), (3, .pb d14 0 0), (9, v39), (12, v36), (13, .int .i64 (if 1 > (d_1.blocks.length : Int) then 1 else (d_1.blocks.length : Int))), (14, .int .i64 i5)] ∧ HS F [pt d1 ⟨4, [eDrf d_1]⟩, sl R3i v36 l8, pt d2 ⟨5, [[.bool false, .str (⟨#[]⟩ : ByteArray), .nils, .nils, .nils]]⟩, pt d14 ⟨8, [[.bool c22, .str c23, .sim (c24.map eRg) false, .sim (c25.map eOpd) false, v37, .sim (c27.map eInt) false, .sim (c28.map eInt) false, v38]]⟩, sl R63t2sie v37 c26, sl R3i v38 c29, sl R66t5si8si9sie v39 code_4] H' : (Int × Bool × ByteArray × (List Rg) × (List Opd) × (List Bl) × (List Int) × (List Int) × (List Int) × (List Ins)) → Fr → Heap → Prop) (fun z_ : Int × Bool × ByteArray × (List Rg) × (List Opd) × (List Bl) × (List Int) × (List Int) × (List Int) × (List Ins) => ((if 1 > (d_1.blocks.length : Int) then 1 else (d_1.blocks.length : Int)) - z_.1).toNat) (0, false, (⟨#[102]⟩ : ByteArray), c14, c18, ([] : List Bl), c3, c4, c19, code_2) ?_ ?_)) ?_
        · exact ⟨he5, Int.le_refl _, _, _, _, _, ⟨rfl, rfl, rfl⟩, s63.sel [2, 1, 3, 4, 0, 5, 6] (by decide)⟩
        ·
          rintro ⟨i5, c22, c23, c24, c25, c26, c27, c28, c29, code_4⟩ a14 H46 ⟨hf5, hl9, d14, v37, v38, v39, f14, s64⟩
          refine U_fi f14 ?_
          by_cases hlt5 : i5 < (if 1 > (d_1.blocks.length : Int) then 1 else (d_1.blocks.length : Int))
          ·
            obtain ⟨u10, hr5, hl10⟩ := forN_step hf5 hlt5
            replace hr5 : p_dyehouseref12_Make_b5 fuel d_1 l8 i5 c22 c23 c24 c25 c26 c27 c28 c29 code_4 = some u10 := hr5
            unfold p_dyehouseref12_Make_b5 at hr5
            have hw3 := wrap_next hlt5 hhi5 hlo5 hl9
            have hlt5_t : decide (i5 < (if 1 > (d_1.blocks.length : Int) then 1 else (d_1.blocks.length : Int))) = true := decide_eq_true hlt5
            refine U_seq (U_seq ?_)
            refine U_reg ?_
            simp only [SQ, hw3, hlt5_t, n1, n2, n3, n4, n5, n6]
            refine hold_intro ?_
            refine U_condT (by simp only [SQ, hw3, hlt5_t, n1, n2, n3, n4, n5, n6]) (U_skip ?_)
            refine U_seq ?_
            refine U_block ?_
            refine U_seq ?_
            refine U_reg ?_
            simp only [SQ, ty122, fk122, hw3, hlt5_t, n1, n2, n3, n4, n5, n6]
            refine N_box s64 rfl fun d16 H47 s65 => ?_
            simp only [SQ, ty122, s65.b 0 rfl, hw3, hlt5_t, n1, n2, n3, n4, n5, n6]
            refine N_put 0 s65 rfl fun H48 s66 => ?_
            simp only [SQ, hw3, hlt5_t, n1, n2, n3, n4, n5, n6]
            refine hold_intro ?_
            refine U_seq ?_
            refine U_fr 249 [(1, .pb d1 0 0), (2, .pb d2 0 0), (3, .pb d14 0 0), (9, v39), (12, v36), (13, .int .i64 (if 1 > (d_1.blocks.length : Int) then 1 else (d_1.blocks.length : Int))), (14, .int .i64 i5), (15, .pb d16 0 0)] rfl rfl rfl ?_
            refine U_fr 249 [(1, .pb d1 0 0), (2, .pb d2 0 0), (3, .pb d14 0 0), (9, v39), (12, v36), (13, .int .i64 (if 1 > (d_1.blocks.length : Int) then 1 else (d_1.blocks.length : Int))), (14, .int .i64 i5), (15, .pb d16 0 0)] rfl rfl rfl ?_
            refine U_nils (M := [pt d16 ⟨5, [[.sim (([] : List DIns).map eDIns) false, .int .u8 0, .int .u8 0, .int .u8 0, .int .u8 0]]⟩, pt d1 ⟨4, [eDrf d_1]⟩, sl R3i v36 l8, pt d2 ⟨5, [[.bool false, .str (⟨#[]⟩ : ByteArray), .nils, .nils, .nils]]⟩, pt d14 ⟨8, [[.bool c22, .str c23, .sim (c24.map eRg) false, .sim (c25.map eOpd) false, v37, .sim (c27.map eInt) false, .sim (c28.map eInt) false, v38]]⟩, sl R63t2sie v37 c26, sl R3i v38 c29, sl R66t5si8si9sie v39 code_4]) s66 .id (.r (.x .n .id) .id) fun H49 s67 => ?_
            obtain ⟨⟨c38, c39, c40, c41, c42⟩, kj3, hr5⟩ := bndO hr5
            dsimp only at hr5
            refine U_cut (fun a' H' => Fi a' 249 [(1, .pb d1 0 0), (2, .pb d2 0 0), (3, .pb d14 0 0), (9, v39), (12, v36), (13, .int .i64 (if 1 > (d_1.blocks.length : Int) then 1 else (d_1.blocks.length : Int))), (14, .int .i64 i5), (15, .pb d16 0 0)] ∧ HS F [pt d1 ⟨4, [eDrf d_1]⟩, sl R3i v36 l8, pt d16 ⟨5, [[.sim (c38.map eDIns) false, .int .u8 c39, .int .u8 c40, .int .u8 c41, .int .u8 c42]]⟩, pt d2 ⟨5, [[.bool false, .str (⟨#[]⟩ : ByteArray), .nils, .nils, .nils]]⟩, pt d14 ⟨8, [[.bool c22, .str c23, .sim (c24.map eRg) false, .sim (c25.map eOpd) false, v37, .sim (c27.map eInt) false, .sim (c28.map eInt) false, v38]]⟩, sl R63t2sie v37 c26, sl R3i v38 c29, sl R66t5si8si9sie v39 code_4] H') ?_ ?_
            ·
              refine U_seq ?_
              refine U_reg ?_
              simp only [SQ, ty54, ty52, s67.b 1 rfl, sDrf, len_sim ty52 rfl, hw3, hlt5_t, n1, n2, n3, n4, n5, n6]
              refine hold_intro ?_
              rcases Bool.eq_false_or_eq_true (decide (i5 < (d_1.blocks.length : Int))) with hb7 | hb7
              ·
                rw [if_pos hb7] at kj3
                refine U_condT (by simp only [SQ, hw3, hlt5_t, hb7, n1, n2, n3, n4, n5, n6]) ?_
                obtain ⟨x3, kx3, kj3⟩ := bndO kj3
                refine U_reg ?_
                simp only [SQ, ty54, ty52, s67.b 1 rfl, sDrf, ty122, iia_sim (f := eDBl) ty52 rfl ty122 kx3 rfl, row_sim (f := eDBl) kx3, sDBl, splice_all', s67.b 0 rfl, hw3, hlt5_t, hb7, n1, n2, n3, n4, n5, n6]
                refine N_put 0 s67 rfl fun H51 s69 => ?_
                simp only [SQ, hw3, hlt5_t, hb7, n1, n2, n3, n4, n5, n6]
                refine hold_intro ?_
                replace kj3 := Option.some.inj kj3
                obtain ⟨q17, q18⟩ := Prod.mk.inj kj3
                clear kj3
                obtain ⟨q19, q20⟩ := Prod.mk.inj q18
                clear q18
                obtain ⟨q21, q22⟩ := Prod.mk.inj q20
                clear q20
                obtain ⟨q23, q24⟩ := Prod.mk.inj q22
                clear q22
                subst q17
                subst q19
                subst q21
                subst q23
                subst q24
                exact ⟨⟨rfl, rfl, by first | rfl | simp only [SQ, hw3, hlt5_t, hb7, n1, n2, n3, n4, n5, n6]⟩, s69.sel [1, 2, 0, 3, 4, 5, 6, 7] (by decide)⟩
              ·
                rw [if_neg (by rw [hb7]; decide)] at kj3
                refine U_condF (by simp only [SQ, hw3, hlt5_t, hb7, n1, n2, n3, n4, n5, n6]) ?_
                refine U_skip ?_
                replace kj3 := Option.some.inj kj3
                obtain ⟨q25, q26⟩ := Prod.mk.inj kj3
                clear kj3
                obtain ⟨q27, q28⟩ := Prod.mk.inj q26
                clear q26
                obtain ⟨q29, q30⟩ := Prod.mk.inj q28
                clear q28
                obtain ⟨q31, q32⟩ := Prod.mk.inj q30
                clear q30
                subst q25
                subst q27
                subst q29
                subst q31
                subst q32
                exact ⟨⟨rfl, rfl, by first | rfl | simp only [SQ, hw3, hlt5_t, hb7, n1, n2, n3, n4, n5, n6]⟩, s67.sel [1, 2, 0, 3, 4, 5, 6, 7] (by decide)⟩
            ·
              rintro a15 H50 ⟨f15, s68⟩
              refine U_fi f15 ?_
              refine U_seq ?_
              obtain ⟨l9, kl9, hr5⟩ := bndO hr5
              refine U_reg ?_
              simp only [SQ, ty37, ty3, hw3, hlt5_t, n1, n2, n3, n4, n5, n6]
              refine N_sl ([] : List Int) R3i s68 rfl rfl (by first | rfl | simp only [SQ]) (by first | rfl | simp only [List.length_map, List.length_replicate]) (zip_flat rfl) ?_
              intro v43 H52 s70
              simp only [SQ, ty37, ty3, hw3, hlt5_t, n1, n2, n3, n4, n5, n6]
              refine N_app (xs := ([] : List Int)) (ys := l8) 0 s70 rfl rfl ty37 rfl ty37 rfl ty3 rfl rfl rfl (by decide) rfl (s70.srowsi 2 rfl) kl9 (fun _ _ e => by cases e) ?_
              intro v44 H53 s71
              simp only [SQ, ty125, ty37, s71.cf 0 rfl, s71.b 5 rfl, hw3, hlt5_t, n1, n2, n3, n4, n5, n6]
              refine N_put 5 s71 rfl fun H54 s72 => ?_
              simp only [SQ, hw3, hlt5_t, n1, n2, n3, n4, n5, n6]
              refine hold_intro ?_
              refine U_seq ?_
              refine U_seq ?_
              refine U_reg ?_
              simp only [SQ, hw3, hlt5_t, n1, n2, n3, n4, n5, n6]
              refine hold_intro ?_
              refine U_fr 249 [(1, .pb d1 0 0), (2, .pb d2 0 0), (3, .pb d14 0 0), (9, v39), (12, v36), (13, .int .i64 (if 1 > (d_1.blocks.length : Int) then 1 else (d_1.blocks.length : Int))), (14, .int .i64 i5), (15, .pb d16 0 0), (16, .int .i64 0)] rfl rfl rfl ?_
              obtain ⟨⟨m_2, code_7⟩, he6, hr5⟩ := bndO hr5
              dsimp only at hr5
              obtain ⟨hhi6, hlo6, he6⟩ := toN_facts he6
              have s74 := s72.fold [5, 6, 0, 1, 2, 3, 4, 7, 8] 3 (by decide) (fold_x (R := R125t4st2sie7sie) (x := (⟨(⟨c22, c23, c24, c25, c26⟩ : Fnc), (⟨c27, c28⟩ : A2 (List Int)), l9⟩ : dyehouseref12_maker)) rfl (R125t4st2sie7sie_f (x := (⟨(⟨c22, c23, c24, c25, c26⟩ : Fnc), (⟨c27, c28⟩ : A2 (List Int)), l9⟩ : dyehouseref12_maker))))
              refine U_cut (fun a' H' => ∃ v45 : IV, Fi a' 249 [(1, .pb d1 0 0), (2, .pb d2 0 0), (3, .pb d14 0 0), (9, v45), (12, v36), (13, .int .i64 (if 1 > (d_1.blocks.length : Int) then 1 else (d_1.blocks.length : Int))), (14, .int .i64 i5), (15, .pb d16 0 0)] ∧ HS F [pt d1 ⟨4, [eDrf d_1]⟩, sl R3i v36 l8, pt d16 ⟨5, [[.sim (c38.map eDIns) false, .int .u8 c39, .int .u8 c40, .int .u8 c41, .int .u8 c42]]⟩, pt d2 ⟨5, [[.bool false, .str (⟨#[]⟩ : ByteArray), .nils, .nils, .nils]]⟩, bx R125t4st2sie7sie (.pb d14 0 0) m_2, sl R66t5si8si9sie v45 code_7] H') (U_block (U_loop (fun z_ a' H' => match z_ with | (i6, m_1, code_6) => forN ((c38.length : Int) - i6).toNat i6 (fun i s => p_dyehouseref12_Make_b6 fuel c38 i s.1 s.2) (m_1, code_6) = some (m_2, code_7) ∧ 0 ≤ i6 ∧ ∃ v45 : IV, Fi a' 249 [(1, .pb d1 0 0), (2, .pb d2 0 0), (3, .pb d14 0 0), (9, v45), (12, v36), (13, .int .i64 (if 1 > (d_1.blocks.length : Int) then 1 else (d_1.blocks.length : Int))), (14, .int .i64 i5), (15, .pb d16 0 0), (16, .int .i64 i6)] ∧ HS F [pt d1 ⟨4, [eDrf d_1]⟩, sl R3i v36 l8, pt d16 ⟨5, [[.sim (c38.map eDIns) false, .int .u8 c39, .int .u8 c40, .int .u8 c41, .int .u8 c42]]⟩, pt d2 ⟨5, [[.bool false, .str (⟨#[]⟩ : ByteArray), .nils, .nils, .nils]]⟩, bx R125t4st2sie7sie (.pb d14 0 0) m_1, sl R66t5si8si9sie v45 code_6] H' : (Int × dyehouseref12_maker × (List Ins)) → Fr → Heap → Prop) (fun z_ : Int × dyehouseref12_maker × (List Ins) => ((c38.length : Int) - z_.1).toNat) (0, (⟨(⟨c22, c23, c24, c25, c26⟩ : Fnc), (⟨c27, c28⟩ : A2 (List Int)), l9⟩ : dyehouseref12_maker), code_4) ?_ ?_)) ?_
              · exact ⟨he6, Int.le_refl _, _, ⟨rfl, rfl, by first | rfl | simp only [SQ, hw3, hlt5_t, n1, n2, n3, n4, n5, n6]⟩, s74.sel [1, 2, 3, 4, 0, 6] (by decide)⟩
              ·
                rintro ⟨i6, m_1, code_6⟩ a16 H55 ⟨hf6, hl11, v45, f16, s75⟩
                refine U_fi f16 ?_
                by_cases hlt6 : i6 < (c38.length : Int)
                ·
                  obtain ⟨u12, hr6, hl12⟩ := forN_step hf6 hlt6
                  replace hr6 : p_dyehouseref12_Make_b6 fuel c38 i6 m_1 code_6 = some u12 := hr6
                  unfold p_dyehouseref12_Make_b6 at hr6
                  have hw4 := wrap_next hlt6 hhi6 hlo6 hl11
                  have hlt6_t : decide (i6 < (c38.length : Int)) = true := decide_eq_true hlt6
                  refine U_seq (U_seq ?_)
                  refine U_reg ?_
                  simp only [SQ, ty122, ty120, s75.b 2 rfl, len_sim ty120 rfl, hw3, hlt5_t, hw4, hlt6_t, n1, n2, n3, n4, n5, n6]
                  refine hold_intro ?_
                  refine U_condT (by simp only [SQ, hw3, hlt5_t, hw4, hlt6_t, n1, n2, n3, n4, n5, n6]) (U_skip ?_)
                  refine U_seq ?_
                  refine U_block ?_
                  obtain ⟨x4, kx4, hr6⟩ := bndO hr6
                  obtain ⟨⟨r4, m3⟩, kr4, hr6⟩ := bndO hr6
                  dsimp only at hr6
                  obtain ⟨l10, kl10, hr6⟩ := bndO hr6
                  refine U_reg ?_
                  simp only [SQ, ty122, ty120, s75.b 2 rfl, ty130, iia_sim (f := eDIns) ty120 rfl ty130 kx4 rfl, row_sim (f := eDIns) kx4, sDIns, hw3, hlt5_t, hw4, hlt6_t, n1, n2, n3, n4, n5, n6]
                  refine callS (w_dyehouseref12_maker_instr_4 kr4) (s75.sel [4, 0, 1, 2, 3, 5] (by decide)) rfl ?_
                  rintro _ H56 _ ⟨w2, w3, w4, rfl, rfl⟩ s76
                  simp only [SQ, ty61, ty66, s76.cf 1 rfl, s76.cf 2 rfl, s76.cf 3 rfl, hw3, hlt5_t, hw4, hlt6_t, n1, n2, n3, n4, n5, n6]
                  refine N_lit s76 rfl fun d18 H57 s77 => ?_
                  simp only [SQ, ty61, ty66, hw3, hlt5_t, hw4, hlt6_t, n1, n2, n3, n4, n5, n6]
                  refine N_appq (xs := code_6) (rows := [[.int .i64 r4.op, .int .i64 r4.dst.kind, .int .i64 r4.dst.cls, .int .i64 r4.dst.n, .int .i64 r4.dst.tag, w2, .str r4.name, .int .i64 r4.off, w3, w4]]) 9 s77 rfl rfl ty61 rfl ty61 rfl ty66 rfl rfl rfl (by decide) rfl (s77.rowsb 0 rfl 1 rfl true) (app_facts kl10).2 (by simp only [SQ, s77.cf 2 rfl, s77.cf 3 rfl, s77.cf 4 rfl, sIns, n1, n2, n3, n4, n5, n6]) (fun _ _ e => by cases e) ?_
                  intro v47 H58 s78
                  have s79 := s78.fold [0, 3, 4, 5, 2, 6, 7, 8, 9] 4 (by decide) (fun p h => by have h2 := slq_one (R := R66t5si8si9sie) (y := r4) (star_mono h (fun _ h => h) (fun p h => star_emp.2 ((R66t5si8si9sie_f (x := r4)) p h))); rw [← (app_facts kl10).1] at h2; exact h2)
                  simp only [SQ, hw3, hlt5_t, hw4, hlt6_t, n1, n2, n3, n4, n5, n6]
                  refine hold_intro ?_
                  refine U_reg ?_
                  simp only [SQ, hw3, hlt5_t, hw4, hlt6_t, n1, n2, n3, n4, n5, n6]
                  refine hold_intro ?_
                  replace hr6 := Option.some.inj hr6
                  subst hr6
                  refine ⟨(i6 + 1, m3, l10), ?_, hl12, Int.le_add_one hl11, _, ⟨rfl, rfl, by first | rfl | simp only [SQ, hw3, hlt5_t, hw4, hlt6_t, n1, n2, n3, n4, n5, n6]⟩, s79.sel [2, 3, 4, 5, 1, 0] (by decide)⟩
                  show ((c38.length : Int) - (i6 + 1)).toNat < ((c38.length : Int) - i6).toNat; omega
                ·
                  have hlt6_e := forN_end hf6 hlt6
                  have hlt6_t : decide (i6 < (c38.length : Int)) = false := decide_eq_false hlt6
                  refine U_seq (U_seq ?_)
                  refine U_reg ?_
                  simp only [SQ, ty122, ty120, s75.b 2 rfl, len_sim ty120 rfl, hw3, hlt5_t, hlt6_t, n1, n2, n3, n4, n5, n6]
                  refine hold_intro ?_
                  refine U_condF (by simp only [SQ, hw3, hlt5_t, hlt6_t, n1, n2, n3, n4, n5, n6]) (U_exit rfl ?_)
                  cases hlt6_e
                  exact ⟨_, ⟨rfl, rfl, by first | rfl | simp only [SQ, hw3, hlt5_t, hlt6_t, n1, n2, n3, n4, n5, n6]⟩, s75⟩
              ·
                rintro a17 H59 ⟨v46, f17, s80⟩
                refine U_fi f17 ?_
                refine U_seq ?_
                obtain ⟨r5, kr5, hr5⟩ := bndO hr5
                obtain ⟨l11, kl11, hr5⟩ := bndO hr5
                refine U_reg ?_
                simp only [SQ, ty122, s80.b 2 rfl, hw3, hlt5_t, n1, n2, n3, n4, n5, n6]
                refine callS (w_dyehouseref12_maker_last_3 kr5) (s80.sel [4, 0, 1, 2, 3, 5] (by decide)) rfl ?_
                rintro _ H60 _ ⟨w5, w6, w7, rfl, rfl⟩ s81
                simp only [SQ, ty61, ty66, s81.cf 1 rfl, s81.cf 2 rfl, s81.cf 3 rfl, hw3, hlt5_t, n1, n2, n3, n4, n5, n6]
                refine N_lit s81 rfl fun d19 H61 s82 => ?_
                simp only [SQ, ty61, ty66, hw3, hlt5_t, n1, n2, n3, n4, n5, n6]
                refine N_appq (xs := code_7) (rows := [[.int .i64 r5.op, .int .i64 r5.dst.kind, .int .i64 r5.dst.cls, .int .i64 r5.dst.n, .int .i64 r5.dst.tag, w5, .str r5.name, .int .i64 r5.off, w6, w7]]) 9 s82 rfl rfl ty61 rfl ty61 rfl ty66 rfl rfl rfl (by decide) rfl (s82.rowsb 0 rfl 1 rfl true) (app_facts kl11).2 (by simp only [SQ, s82.cf 2 rfl, s82.cf 3 rfl, s82.cf 4 rfl, sIns, n1, n2, n3, n4, n5, n6]) (fun _ _ e => by cases e) ?_
                intro v48 H62 s83
                have s84 := s83.fold [0, 3, 4, 5, 2, 6, 7, 8, 9] 4 (by decide) (fun p h => by have h2 := slq_one (R := R66t5si8si9sie) (y := r5) (star_mono h (fun _ h => h) (fun p h => star_emp.2 ((R66t5si8si9sie_f (x := r5)) p h))); rw [← (app_facts kl11).1] at h2; exact h2)
                simp only [SQ, hw3, hlt5_t, n1, n2, n3, n4, n5, n6]
                refine hold_intro ?_
                refine U_seq ?_
                refine U_fr 249 [(1, .pb d1 0 0), (2, .pb d2 0 0), (3, .pb d14 0 0), (9, v48), (12, v36), (13, .int .i64 (if 1 > (d_1.blocks.length : Int) then 1 else (d_1.blocks.length : Int))), (14, .int .i64 i5)] rfl rfl rfl ?_
                refine U_fzS (l' := [(1, .pb d1 0 0), (2, .pb d2 0 0), (3, .pb d14 0 0), (9, .sim (l11.map eIns) false), (12, v36), (13, .int .i64 (if 1 > (d_1.blocks.length : Int) then 1 else (d_1.blocks.length : Int))), (14, .int .i64 i5)]) (M := [bx R125t4st2sie7sie (.pb d14 0 0) m_2, pt d1 ⟨4, [eDrf d_1]⟩, sl R3i v36 l8, pt d16 ⟨5, [[.sim (c38.map eDIns) false, .int .u8 c39, .int .u8 c40, .int .u8 c41, .int .u8 c42]]⟩, pt d2 ⟨5, [[.bool false, .str (⟨#[]⟩ : ByteArray), .nils, .nils, .nils]]⟩]) 0 s84 rfl R66t5si8si9sie_nl (.s (.s (.s (.x .o .id)))) .id fun H63 s85 => ?_
                obtain ⟨r6, kr6, hr5⟩ := bndO hr5
                obtain ⟨l12, kl12, hr5⟩ := bndO hr5
                refine U_drawQ hm [0, 0, 2, 6, 14, 30, 0, 64, 0, 448, 960, 2046, 4095, 8191, 16383, 32767] false 12 (by decide +kernel) (by decide) ?_
                obtain ⟨d20, c43, q33, s86⟩ := s85.opx 0 rfl
                injection q33 with q33 _ _
                subst q33
                obtain ⟨w8, w9, rfl, s87⟩ := R125t4st2sie7sie_o 1 s86 rfl
                simp only [SQ, ty125, ty26, ty24, s87.b 2 rfl, hw3, hlt5_t, n1, n2, n3, n4, n5, n6]
                refine callP (w_dyehouseref12_label kr6) ?_
                simp only [SQ, ty63, fk63, ty24, hw3, hlt5_t, n1, n2, n3, n4, n5, n6]
                refine N_lit s87 rfl fun d21 H64 s88 => ?_
                have s89 := s88.nil' R58i
                simp only [SQ, ty24, ty63, hw3, hlt5_t, n1, n2, n3, n4, n5, n6]
                refine N_appq (xs := m_2.f.blocks) (rows := [[.str r6, .bool false, .nils, .sim (l11.map eIns) false]]) 3 s89 rfl rfl ty24 rfl ty24 rfl ty63 rfl rfl rfl (by decide) rfl (s89.rowsb 1 rfl 1 rfl true) (app_facts kl12).2 (by simp only [SQ, s89.cf 0 rfl, sBl, n1, n2, n3, n4, n5, n6]) (fun _ _ e0 _ _ _ _ e => by cases e0; simp only [SQ, s89.nev 3 0 rfl rfl (by decide) e, s89.nev 3 2 rfl rfl (by decide) e, s89.nes 3 4 rfl rfl (by decide) e, s89.nes 3 5 rfl rfl (by decide) e, s89.nev 3 6 rfl rfl (by decide) e, s89.nes 3 7 rfl rfl (by decide) e, s89.nes 3 8 rfl rfl (by decide) e, hw3, hlt5_t, n1, n2, n3, n4, n5, n6]) ?_
                intro v49 H65 s90
                have s91 := s90.fold [0, 1, 3, 4, 5, 6, 7, 8] 2 (by decide) (fun p h => by have h2 := slq_one (R := R63t2sie) (y := (⟨r6, false, ([] : List Opd), l11⟩ : Bl)) (star_mono h (fun _ h => h) (fun p h => star_emp.2 ((R63t2sie_f (x := (⟨r6, false, ([] : List Opd), l11⟩ : Bl))) p h))); rw [← (app_facts kl12).1] at h2; exact h2)
                simp only [SQ, ty125, ty26, ty24, s91.cf 0 rfl, s91.b 2 rfl, hw3, hlt5_t, n1, n2, n3, n4, n5, n6]
                refine N_put 2 s91 rfl fun H66 s92 => ?_
                simp only [SQ, hw3, hlt5_t, n1, n2, n3, n4, n5, n6]
                refine hold_intro ?_
                refine U_fr 249 [(1, .pb d1 0 0), (2, .pb d2 0 0), (3, .pb d14 0 0), (9, .sim (l11.map eIns) false), (12, v36), (13, .int .i64 (if 1 > (d_1.blocks.length : Int) then 1 else (d_1.blocks.length : Int))), (14, .int .i64 i5)] rfl rfl rfl ?_
                refine U_reg ?_
                simp only [SQ, hw3, hlt5_t, n1, n2, n3, n4, n5, n6]
                refine hold_intro ?_
                refine U_reg ?_
                simp only [SQ, hw3, hlt5_t, n1, n2, n3, n4, n5, n6]
                refine hold_intro ?_
                have s93 := s92.nil' R66t5si8si9sie
                replace hr5 := Option.some.inj hr5
                subst hr5
                refine ⟨(i5 + 1, m_2.f.machine, m_2.f.name, m_2.f.regs, m_2.f.params, l12, m_2.ids.a0, m_2.ids.a1, m_2.has, ([] : List Ins)), ?_, hl10, Int.le_add_one hl9, _, _, _, _, ⟨rfl, rfl, by first | rfl | simp only [SQ, hw3, hlt5_t, n1, n2, n3, n4, n5, n6]⟩, s93.sel [4, 5, 7, 3, 1, 2, 0] (by decide)⟩
                show ((if 1 > (d_1.blocks.length : Int) then 1 else (d_1.blocks.length : Int)) - (i5 + 1)).toNat < ((if 1 > (d_1.blocks.length : Int) then 1 else (d_1.blocks.length : Int)) - i5).toNat; omega
          ·
            have hlt5_e := forN_end hf5 hlt5
            have hlt5_t : decide (i5 < (if 1 > (d_1.blocks.length : Int) then 1 else (d_1.blocks.length : Int))) = false := decide_eq_false hlt5
            refine U_seq (U_seq ?_)
            refine U_reg ?_
            simp only [SQ, hlt5_t, n1, n2, n3, n4, n5, n6]
            refine hold_intro ?_
            refine U_condF (by simp only [SQ, hlt5_t, n1, n2, n3, n4, n5, n6]) (U_exit rfl ?_)
            cases hlt5_e
            exact ⟨_, _, _, _, ⟨rfl, rfl, by first | rfl | simp only [SQ, hlt5_t, n1, n2, n3, n4, n5, n6]⟩, s64⟩
        ·
          rintro a18 H67 ⟨d15, v40, v41, v42, f18, s94⟩
          refine U_fi f18 ?_
          refine U_seq ?_
          refine U_reg ?_
          simp only [SQ, ty125, ty26, s94.b 3 rfl, s94.cf 4 rfl, s94.b 2 rfl, n1, n2, n3, n4, n5, n6]
          refine N_put 2 s94 rfl fun H68 s95 => ?_
          simp only [SQ, n1, n2, n3, n4, n5, n6]
          refine hold_intro ?_
          refine U_ret ?_
          replace h := Option.some.inj h
          subst h
          refine ⟨.agg [.bool c30, .str c31, .sim (c32.map eRg) false, .sim (c33.map eOpd) false, v40], by simp only [ires, iress, Try.results31, SQ, List.toList_toArray, s95.b 2 rfl, ty26, n1, n2, n3, n4, n5, n6], ?_⟩
          exact Fz_agg (.cons (.cl (closed_bool _)) (.cons (.cl (closed_str _)) (.cons (.cl (cl_map cl_eRg c32)) (.cons (.cl (cl_map cl_eOpd c33)) (.cons (s95.fzS 4 rfl) (.nil))))))

theorem w_dyehouseref12_Find {fuel : Nat} {f_1 : Fnc} {label_1 : ByteArray} {r0_ : Int} (h : p_dyehouseref12_Find fuel f_1 label_1 = some r0_) : Pure1 Try.prog 53 [.agg (eFnc f_1), .str label_1] (.int .i64 r0_) := by
  refine Pure1_S (all_cl (cl_agg (cl_eFnc _)) (all_cl (closed_str _) all_cl0)) fun F H s0 => ?_
  refine U_call 0 Try.func53 rfl (by kernel_rfl) (by simp [Try.ntmps53]) ?_
  rw [Try.ntmps53]
  refine U_fr 22 [(0, .agg (eFnc f_1)), (1, .str label_1)] rfl rfl rfl ?_
  unfold p_dyehouseref12_Find at h
  refine U_seq ?_
  refine U_reg ?_
  simp only [SQ, ty26, sFnc, n1, n2, n3, n4, n5, n6]
  refine N_box s0 rfl fun d1 H1 s1 => ?_
  simp only [SQ, n1, n2, n3, n4, n5, n6]
  refine hold_intro ?_
  refine U_seq ?_
  refine U_seq ?_
  refine U_reg ?_
  simp only [SQ, n1, n2, n3, n4, n5, n6]
  refine hold_intro ?_
  refine U_fr 22 [(1, .str label_1), (2, .pb d1 0 0), (5, .int .i64 0)] rfl rfl rfl ?_
  obtain ⟨u1, he1, h⟩ := bndE h
  obtain ⟨hhi1, hlo1, he1⟩ := toE_facts he1
  refine U_cut (fun a' H' => u1 = .n () ∧ Fi a' 22 [] ∧ HS F [pt d1 ⟨5, [eFnc f_1]⟩] H') (U_block (U_loop (fun z_ a' H' => match z_ with | i1 => forE ((f_1.blocks.length : Int) - i1).toNat i1 (fun i _ => p_dyehouseref12_Find_b1 fuel f_1 label_1 i) () = some u1 ∧ 0 ≤ i1 ∧ Fi a' 22 [(1, .str label_1), (2, .pb d1 0 0), (5, .int .i64 i1)] ∧ HS F [pt d1 ⟨5, [eFnc f_1]⟩] H' : Int → Fr → Heap → Prop) (fun z_ : Int => ((f_1.blocks.length : Int) - z_).toNat) 0 ?_ ?_)) ?_
  · exact ⟨he1, Int.le_refl _, ⟨rfl, rfl, rfl⟩, s1⟩
  ·
    rintro i1 a1 H2 ⟨hf1, hl1, f1, s2⟩
    refine U_fi f1 ?_
    by_cases hlt1 : i1 < (f_1.blocks.length : Int)
    ·
      obtain ⟨u2, hr1, hl2⟩ := forE_step hf1 hlt1
      replace hr1 : p_dyehouseref12_Find_b1 fuel f_1 label_1 i1 = some u2 := hr1
      unfold p_dyehouseref12_Find_b1 at hr1
      have hw1 := wrap_next hlt1 hhi1 hlo1 hl1
      have hlt1_t : decide (i1 < (f_1.blocks.length : Int)) = true := decide_eq_true hlt1
      refine U_seq (U_seq ?_)
      refine U_reg ?_
      simp only [SQ, ty26, ty24, s2.b 0 rfl, sFnc, len_sim ty24 rfl, hw1, hlt1_t, n1, n2, n3, n4, n5, n6]
      refine hold_intro ?_
      refine U_condT (by simp only [SQ, hw1, hlt1_t, n1, n2, n3, n4, n5, n6]) (U_skip ?_)
      refine U_seq ?_
      refine U_block ?_
      refine U_seq ?_
      obtain ⟨x1, kx1, hr1⟩ := bndO hr1
      refine U_reg ?_
      simp only [SQ, ty26, ty24, s2.b 0 rfl, sFnc, ty63, iia_sim (f := eBl) ty24 rfl ty63 kx1 rfl, row_sim (f := eBl) kx1, sBl, ty9, hw1, hlt1_t, n1, n2, n3, n4, n5, n6]
      refine hold_intro ?_
      rcases Bool.eq_false_or_eq_true (decide (x1.label = label_1)) with hb1 | hb1
      ·
        rw [if_pos hb1] at hr1
        refine U_condT (by simp only [SQ, hw1, hlt1_t, hb1, n1, n2, n3, n4, n5, n6]) ?_
        refine U_seq ?_
        refine U_reg ?_
        simp only [SQ, hw1, hlt1_t, hb1, n1, n2, n3, n4, n5, n6]
        refine hold_intro ?_
        refine U_ret ?_
        replace hr1 := Option.some.inj hr1
        subst hr1
        replace hl2 : u1 = .r _ := hl2
        subst hl2
        replace h := outE_r h
        replace h := Option.some.inj h
        subst h
        refine ⟨.int .i64 i1, by simp only [ires, iress, Try.results53, SQ, List.toList_toArray, hw1, hlt1_t, hb1, n1, n2, n3, n4, n5, n6], ?_⟩
        exact .cl (closed_int _ _)
      ·
        rw [if_neg (by rw [hb1]; decide)] at hr1
        refine U_condF (by simp only [SQ, hw1, hlt1_t, hb1, n1, n2, n3, n4, n5, n6]) ?_
        refine U_skip ?_
        refine U_reg ?_
        simp only [SQ, hw1, hlt1_t, hb1, n1, n2, n3, n4, n5, n6]
        refine hold_intro ?_
        replace hr1 := Option.some.inj hr1
        subst hr1
        refine ⟨i1 + 1, ?_, hl2, Int.le_add_one hl1, ⟨rfl, rfl, by first | rfl | simp only [SQ, hw1, hlt1_t, hb1, n1, n2, n3, n4, n5, n6]⟩, s2⟩
        show ((f_1.blocks.length : Int) - (i1 + 1)).toNat < ((f_1.blocks.length : Int) - i1).toNat; omega
    ·
      have hlt1_e := forE_end hf1 hlt1
      have hlt1_t : decide (i1 < (f_1.blocks.length : Int)) = false := decide_eq_false hlt1
      refine U_seq (U_seq ?_)
      refine U_reg ?_
      simp only [SQ, ty26, ty24, s2.b 0 rfl, sFnc, len_sim ty24 rfl, hlt1_t, n1, n2, n3, n4, n5, n6]
      refine hold_intro ?_
      refine U_condF (by simp only [SQ, hlt1_t, n1, n2, n3, n4, n5, n6]) (U_exit rfl ?_)
      exact ⟨hlt1_e, ⟨rfl, rfl, by first | rfl | simp only [SQ, hlt1_t, n1, n2, n3, n4, n5, n6]⟩, s2⟩
  ·
    rintro a2 H3 ⟨rfl, f2, s3⟩
    replace h := outE_n h
    refine U_fi f2 ?_
    refine U_seq ?_
    refine U_reg ?_
    simp only [SQ, n1, n2, n3, n4, n5, n6]
    refine hold_intro ?_
    refine U_ret ?_
    replace h := Option.some.inj h
    subst h
    refine ⟨.int .i64 (-1), by simp only [ires, iress, Try.results53, SQ, List.toList_toArray, n1, n2, n3, n4, n5, n6], ?_⟩
    exact .cl (closed_int _ _)

theorem w_dyehouseref19_Succ {fuel : Nat} {f_1 : Fnc} {r0_ : List (List Int)} (h : p_dyehouseref19_Succ fuel f_1 = some r0_) : Pure1 Try.prog 16 [.agg (eFnc f_1)] (.sim (r0_.map (eS eInt)) false) := by
  refine Pure1_S (all_cl (cl_agg (cl_eFnc _)) all_cl0) fun F H s0 => ?_
  refine U_call 0 Try.func16 rfl (by kernel_rfl) (by simp [Try.ntmps16]) ?_
  rw [Try.ntmps16]
  refine U_fr 83 [(0, .agg (eFnc f_1))] rfl rfl rfl ?_
  unfold p_dyehouseref19_Succ at h
  refine U_seq ?_
  refine U_reg ?_
  simp only [SQ, ty26, sFnc, n1, n2, n3, n4, n5, n6]
  refine N_box s0 rfl fun d1 H1 s1 => ?_
  simp only [SQ, n1, n2, n3, n4, n5, n6]
  refine hold_intro ?_
  refine U_seq ?_
  refine U_reg ?_
  simp only [SQ, n1, n2, n3, n4, n5, n6]
  refine hold_intro ?_
  refine U_seq ?_
  refine U_seq ?_
  refine U_reg ?_
  simp only [SQ, n1, n2, n3, n4, n5, n6]
  refine hold_intro ?_
  refine U_fr 83 [(1, .pb d1 0 0), (3, .nils), (4, .int .i64 0)] rfl rfl rfl ?_
  obtain ⟨out_2, he1, h⟩ := bndO h
  obtain ⟨hhi1, hlo1, he1⟩ := toN_facts he1
  have s3 := s1.nil' R37i
  refine U_cut (fun a' H' => ∃ v1 : IV, Fi a' 83 [(3, v1)] ∧ HS F [pt d1 ⟨5, [eFnc f_1]⟩, sl R37i v1 out_2] H') (U_block (U_loop (fun z_ a' H' => match z_ with | (i1, out_1) => forN ((f_1.blocks.length : Int) - i1).toNat i1 (fun i s => p_dyehouseref19_Succ_b1 fuel f_1 i s) out_1 = some out_2 ∧ 0 ≤ i1 ∧ ∃ v1 : IV, Fi a' 83 [(1, .pb d1 0 0), (3, v1), (4, .int .i64 i1)] ∧ HS F [pt d1 ⟨5, [eFnc f_1]⟩, sl R37i v1 out_1] H' : (Int × (List (List Int))) → Fr → Heap → Prop) (fun z_ : Int × (List (List Int)) => ((f_1.blocks.length : Int) - z_.1).toNat) (0, ([] : List (List Int))) ?_ ?_)) ?_
  · exact ⟨he1, Int.le_refl _, _, ⟨rfl, rfl, rfl⟩, s3.sel [1, 0] (by decide)⟩
  ·
    rintro ⟨i1, out_1⟩ a1 H2 ⟨hf1, hl1, v1, f1, s4⟩
    refine U_fi f1 ?_
    by_cases hlt1 : i1 < (f_1.blocks.length : Int)
    ·
      obtain ⟨u2, hr1, hl2⟩ := forN_step hf1 hlt1
      replace hr1 : p_dyehouseref19_Succ_b1 fuel f_1 i1 out_1 = some u2 := hr1
      unfold p_dyehouseref19_Succ_b1 at hr1
      have hw1 := wrap_next hlt1 hhi1 hlo1 hl1
      have hlt1_t : decide (i1 < (f_1.blocks.length : Int)) = true := decide_eq_true hlt1
      refine U_seq (U_seq ?_)
      refine U_reg ?_
      simp only [SQ, ty26, ty24, s4.b 0 rfl, sFnc, len_sim ty24 rfl, hw1, hlt1_t, n1, n2, n3, n4, n5, n6]
      refine hold_intro ?_
      refine U_condT (by simp only [SQ, hw1, hlt1_t, n1, n2, n3, n4, n5, n6]) (U_skip ?_)
      refine U_seq ?_
      refine U_block ?_
      refine U_seq ?_
      refine U_reg ?_
      simp only [SQ, hw1, hlt1_t, n1, n2, n3, n4, n5, n6]
      refine hold_intro ?_
      refine U_seq ?_
      obtain ⟨x1, kx1, hr1⟩ := bndO hr1
      refine U_reg ?_
      simp only [SQ, ty26, ty24, s4.b 0 rfl, sFnc, ty63, iia_sim (f := eBl) ty24 rfl ty63 kx1 rfl, row_sim (f := eBl) kx1, sBl, ty61, hw1, hlt1_t, n1, n2, n3, n4, n5, n6]
      refine hold_intro ?_
      refine U_seq ?_
      refine U_fr 83 [(1, .pb d1 0 0), (3, v1), (4, .int .i64 i1), (5, .nils), (6, .sim (x1.code.map eIns) false)] rfl rfl rfl ?_
      obtain ⟨l_1, kj1, hr1⟩ := bndO hr1
      refine U_cut (fun a' H' => ∃ v3 : IV, Fi a' 83 [(1, .pb d1 0 0), (3, v1), (4, .int .i64 i1), (5, v3)] ∧ HS F [pt d1 ⟨5, [eFnc f_1]⟩, sl R37i v1 out_1, sl R3i v3 l_1] H') ?_ ?_
      ·
        refine U_seq ?_
        obtain ⟨b1, kb1, kj1⟩ := bndO kj1
        obtain ⟨b2, kb2, kj1⟩ := bndO kj1
        refine U_cut (fun a' H' => Fi a' 83 [(1, .pb d1 0 0), (3, v1), (4, .int .i64 i1), (5, .nils), (6, .sim (x1.code.map eIns) false), (45, .bool b2)] ∧ H2 = H') ?_ ?_
        · refine U_reg ?_
          rcases Bool.eq_false_or_eq_true (decide (0 < (x1.code.length : Int))) with hb1 | hb1
          ·
            have hx1 := hb1
            rw [if_pos hx1] at kb1
            obtain ⟨x2, kx2, kb1⟩ := bndO kb1
            have hq1 := (Option.some.inj kb1).symm
            rcases Bool.eq_false_or_eq_true (decide (20 ≤ x2.op)) with hb2 | hb2
            ·
              have hx2 : b1 = true := by simp only [SQ, hb1, hq1, hb2]
              rw [if_pos hx2] at kb2
              obtain ⟨x3, kx3, kb2⟩ := bndO kb2
              have q1 := Option.some.inj (kx2.symm.trans kx3)
              subst q1
              have hq2 := (Option.some.inj kb2).symm
              simp only [SQ, len_sim ty61 rfl, ty61, ty66, iia_sim (f := eIns) ty61 rfl ty66 kx2 rfl, row_sim (f := eIns) kx2, sIns, ty3, iia_sim (f := eIns) ty61 rfl ty66 kx3 rfl, row_sim (f := eIns) kx3, hw1, hlt1_t, hb1, hq1, hb2, hq2, n1, n2, n3, n4, n5, n6]
              refine hold_intro ?_
              exact ⟨⟨rfl, rfl, by first | rfl | simp only [SQ, hw1, hlt1_t, hb1, hq1, hb2, hq2, n1, n2, n3, n4, n5, n6]⟩, rfl⟩
            ·
              have hx3 : b1 = false := by simp only [SQ, hb1, hq1, hb2]
              rw [if_neg (by rw [hx3]; decide)] at kb2
              have hq3 := (Option.some.inj kb2).symm
              simp only [SQ, len_sim ty61 rfl, ty61, ty66, iia_sim (f := eIns) ty61 rfl ty66 kx2 rfl, row_sim (f := eIns) kx2, sIns, ty3, hw1, hlt1_t, hb1, hq1, hb2, hq3, n1, n2, n3, n4, n5, n6]
              refine hold_intro ?_
              exact ⟨⟨rfl, rfl, by first | rfl | simp only [SQ, hw1, hlt1_t, hb1, hq1, hb2, hq3, n1, n2, n3, n4, n5, n6]⟩, rfl⟩
          ·
            have hx4 := hb1
            rw [if_neg (by rw [hx4]; decide)] at kb1
            have hq4 := (Option.some.inj kb1).symm
            have hx5 : b1 = false := by simp only [SQ, hb1, hq4]
            rw [if_neg (by rw [hx5]; decide)] at kb2
            have hq5 := (Option.some.inj kb2).symm
            simp only [SQ, len_sim ty61 rfl, hw1, hlt1_t, hb1, hq4, hq5, n1, n2, n3, n4, n5, n6]
            refine hold_intro ?_
            exact ⟨⟨rfl, rfl, by first | rfl | simp only [SQ, hw1, hlt1_t, hb1, hq4, hq5, n1, n2, n3, n4, n5, n6]⟩, rfl⟩
        · rintro a3 _ ⟨f3, rfl⟩
          refine U_fi f3 ?_
          rcases Bool.eq_false_or_eq_true (b2) with hb3 | hb3
          ·
            rw [if_pos hb3] at kj1
            refine U_condT (by simp only [SQ, hw1, hlt1_t, hb3, n1, n2, n3, n4, n5, n6]) ?_
            refine U_seq ?_
            refine U_fr 83 [(1, .pb d1 0 0), (3, v1), (4, .int .i64 i1), (5, .nils), (6, .sim (x1.code.map eIns) false)] rfl rfl rfl ?_
            obtain ⟨x4, kx4, kj1⟩ := bndO kj1
            refine U_reg ?_
            simp only [SQ, len_sim ty61 rfl, ty61, ty66, iia_sim (f := eIns) ty61 rfl ty66 kx4 rfl, row_sim (f := eIns) kx4, sIns, hw1, hlt1_t, hb3, n1, n2, n3, n4, n5, n6]
            refine N_box s4 rfl fun d2 H5 s7 => ?_
            simp only [SQ, ty66, sIns, splice_all', s7.b 0 rfl, hw1, hlt1_t, hb3, n1, n2, n3, n4, n5, n6]
            refine N_put 0 s7 rfl fun H6 s8 => ?_
            simp only [SQ, hw1, hlt1_t, hb3, n1, n2, n3, n4, n5, n6]
            refine hold_intro ?_
            refine U_seq ?_
            refine U_reg ?_
            simp only [SQ, hw1, hlt1_t, hb3, n1, n2, n3, n4, n5, n6]
            refine hold_intro ?_
            refine U_fr 83 [(1, .pb d1 0 0), (3, v1), (4, .int .i64 i1), (5, .nils), (7, .pb d2 0 0), (8, .int .i64 0)] rfl rfl rfl ?_
            obtain ⟨l_3, he2, kj1⟩ := bndO kj1
            obtain ⟨hhi2, hlo2, he2⟩ := toN_facts he2
            have s10 := s8.nil' R3i
            refine U_cut (fun a' H' => ∃ v4 : IV, Fi a' 83 [(1, .pb d1 0 0), (3, v1), (4, .int .i64 i1), (5, v4)] ∧ HS F [pt d1 ⟨5, [eFnc f_1]⟩, sl R37i v1 out_1, sl R3i v4 l_3, pt d2 ⟨10, [eIns x4]⟩] H') (U_block (U_loop (fun z_ a' H' => match z_ with | (i2, l_2) => forN ((x4.labels.length : Int) - i2).toNat i2 (fun i s => p_dyehouseref19_Succ_b2 fuel f_1 x4 i s) l_2 = some l_3 ∧ 0 ≤ i2 ∧ ∃ v4 : IV, Fi a' 83 [(1, .pb d1 0 0), (3, v1), (4, .int .i64 i1), (5, v4), (7, .pb d2 0 0), (8, .int .i64 i2)] ∧ HS F [pt d1 ⟨5, [eFnc f_1]⟩, sl R37i v1 out_1, sl R3i v4 l_2, pt d2 ⟨10, [eIns x4]⟩] H' : (Int × (List Int)) → Fr → Heap → Prop) (fun z_ : Int × (List Int) => ((x4.labels.length : Int) - z_.1).toNat) (0, ([] : List Int)) ?_ ?_)) ?_
            · exact ⟨he2, Int.le_refl _, _, ⟨rfl, rfl, by first | rfl | simp only [SQ, hw1, hlt1_t, hb3, n1, n2, n3, n4, n5, n6]⟩, s10.sel [2, 3, 0, 1] (by decide)⟩
            ·
              rintro ⟨i2, l_2⟩ a4 H7 ⟨hf2, hl3, v4, f4, s11⟩
              refine U_fi f4 ?_
              by_cases hlt2 : i2 < (x4.labels.length : Int)
              ·
                obtain ⟨u4, hr2, hl4⟩ := forN_step hf2 hlt2
                replace hr2 : p_dyehouseref19_Succ_b2 fuel f_1 x4 i2 l_2 = some u4 := hr2
                unfold p_dyehouseref19_Succ_b2 at hr2
                have hw2 := wrap_next hlt2 hhi2 hlo2 hl3
                have hlt2_t : decide (i2 < (x4.labels.length : Int)) = true := decide_eq_true hlt2
                refine U_seq (U_seq ?_)
                refine U_reg ?_
                simp only [SQ, ty66, ty64, s11.b 3 rfl, sIns, len_sim ty64 rfl, hw1, hlt1_t, hb3, hw2, hlt2_t, n1, n2, n3, n4, n5, n6]
                refine hold_intro ?_
                refine U_condT (by simp only [SQ, hw1, hlt1_t, hb3, hw2, hlt2_t, n1, n2, n3, n4, n5, n6]) (U_skip ?_)
                refine U_seq ?_
                refine U_block ?_
                refine U_seq ?_
                obtain ⟨x5, kx5, hr2⟩ := bndO hr2
                obtain ⟨r1, kr1, hr2⟩ := bndO hr2
                refine U_drawQ hm [0, 0, 2, 0, 14, 30, 63, 127] false 6 (by decide +kernel) (by decide) ?_
                simp only [SQ, ty26, s11.b 0 rfl, sFnc, ty66, ty64, s11.b 3 rfl, sIns, ty9, iia_sim (f := eStr) ty64 rfl ty9 kx5 rfl, row_sim (f := eStr) kx5, hw1, hlt1_t, hb3, hw2, hlt2_t, n1, n2, n3, n4, n5, n6]
                refine callP (w_dyehouseref12_Find kr1) ?_
                simp only [SQ, hw1, hlt1_t, hb3, hw2, hlt2_t, n1, n2, n3, n4, n5, n6]
                refine hold_intro ?_
                refine U_seq ?_
                refine U_fr 83 [(1, .pb d1 0 0), (3, v1), (4, .int .i64 i1), (5, v4), (7, .pb d2 0 0), (8, .int .i64 i2), (9, .int .i64 r1)] rfl rfl rfl ?_
                obtain ⟨b3, kb3, hr2⟩ := bndO hr2
                refine U_cut (fun a' H' => Fi a' 83 [(1, .pb d1 0 0), (3, v1), (4, .int .i64 i1), (5, v4), (7, .pb d2 0 0), (8, .int .i64 i2), (9, .int .i64 r1), (73, .bool b3)] ∧ H7 = H') ?_ ?_
                · refine U_reg ?_
                  rcases Bool.eq_false_or_eq_true (decide (0 ≤ r1)) with hb4 | hb4
                  ·
                    have hx6 := hb4
                    rw [if_pos hx6] at kb3
                    obtain ⟨r2, kr2, kb3⟩ := bndO kb3
                    have hq6 := (Option.some.inj kb3).symm
                    simp only [SQ, hw1, hlt1_t, hb3, hw2, hlt2_t, hb4, hq6, n1, n2, n3, n4, n5, n6]
                    refine callLd (w_dyehouseref12_In kr2) (.cons (s11.fzS 2 rfl) (.cons (.cl (closed_int _ _)) (.nil))) (flat_bool _) ?_
                    simp only [SQ, hw1, hlt1_t, hb3, hw2, hlt2_t, hb4, hq6, n1, n2, n3, n4, n5, n6]
                    refine hold_intro ?_
                    exact ⟨⟨rfl, rfl, by first | rfl | simp only [SQ, hw1, hlt1_t, hb3, hw2, hlt2_t, hb4, hq6, n1, n2, n3, n4, n5, n6]⟩, rfl⟩
                  ·
                    have hx7 := hb4
                    rw [if_neg (by rw [hx7]; decide)] at kb3
                    have hq7 := (Option.some.inj kb3).symm
                    simp only [SQ, hw1, hlt1_t, hb3, hw2, hlt2_t, hb4, hq7, n1, n2, n3, n4, n5, n6]
                    refine hold_intro ?_
                    exact ⟨⟨rfl, rfl, by first | rfl | simp only [SQ, hw1, hlt1_t, hb3, hw2, hlt2_t, hb4, hq7, n1, n2, n3, n4, n5, n6]⟩, rfl⟩
                · rintro a5 _ ⟨f5, rfl⟩
                  refine U_fi f5 ?_
                  rcases Bool.eq_false_or_eq_true (b3) with hb5 | hb5
                  ·
                    rw [if_pos hb5] at hr2
                    refine U_condT (by simp only [SQ, hw1, hlt1_t, hb3, hw2, hlt2_t, hb5, n1, n2, n3, n4, n5, n6]) ?_
                    obtain ⟨l1, kl1, hr2⟩ := bndO hr2
                    refine U_reg ?_
                    simp only [SQ, ty37, ty3, hw1, hlt1_t, hb3, hw2, hlt2_t, hb5, n1, n2, n3, n4, n5, n6]
                    refine N_sl ([r1] : List Int) R3i s11 rfl rfl (by first | rfl | simp only [SQ]) (by first | rfl | simp only [List.length_map, List.length_replicate]) (zip_flat rfl) ?_
                    intro v6 H9 s13
                    simp only [SQ, ty37, ty3, hw1, hlt1_t, hb3, hw2, hlt2_t, hb5, n1, n2, n3, n4, n5, n6]
                    refine N_app (xs := l_2) (ys := ([r1] : List Int)) 3 s13 rfl rfl ty37 rfl ty37 rfl ty3 rfl rfl rfl (by decide) rfl (s13.srowsi 0 rfl) kl1 (fun _ _ e => by cases e) ?_
                    intro v7 H10 s14
                    simp only [SQ, hw1, hlt1_t, hb3, hw2, hlt2_t, hb5, n1, n2, n3, n4, n5, n6]
                    refine hold_intro ?_
                    refine U_reg ?_
                    simp only [SQ, hw1, hlt1_t, hb3, hw2, hlt2_t, hb5, n1, n2, n3, n4, n5, n6]
                    refine hold_intro ?_
                    replace hr2 := Option.some.inj hr2
                    subst hr2
                    refine ⟨(i2 + 1, l1), ?_, hl4, Int.le_add_one hl3, _, ⟨rfl, rfl, by first | rfl | simp only [SQ, hw1, hlt1_t, hb3, hw2, hlt2_t, hb5, n1, n2, n3, n4, n5, n6]⟩, s14.sel [2, 3, 0, 4] (by decide)⟩
                    show ((x4.labels.length : Int) - (i2 + 1)).toNat < ((x4.labels.length : Int) - i2).toNat; omega
                  ·
                    rw [if_neg (by rw [hb5]; decide)] at hr2
                    refine U_condF (by simp only [SQ, hw1, hlt1_t, hb3, hw2, hlt2_t, hb5, n1, n2, n3, n4, n5, n6]) ?_
                    refine U_skip ?_
                    refine U_reg ?_
                    simp only [SQ, hw1, hlt1_t, hb3, hw2, hlt2_t, hb5, n1, n2, n3, n4, n5, n6]
                    refine hold_intro ?_
                    replace hr2 := Option.some.inj hr2
                    subst hr2
                    refine ⟨(i2 + 1, l_2), ?_, hl4, Int.le_add_one hl3, _, ⟨rfl, rfl, by first | rfl | simp only [SQ, hw1, hlt1_t, hb3, hw2, hlt2_t, hb5, n1, n2, n3, n4, n5, n6]⟩, s11⟩
                    show ((x4.labels.length : Int) - (i2 + 1)).toNat < ((x4.labels.length : Int) - i2).toNat; omega
              ·
                have hlt2_e := forN_end hf2 hlt2
                have hlt2_t : decide (i2 < (x4.labels.length : Int)) = false := decide_eq_false hlt2
                refine U_seq (U_seq ?_)
                refine U_reg ?_
                simp only [SQ, ty66, ty64, s11.b 3 rfl, sIns, len_sim ty64 rfl, hw1, hlt1_t, hb3, hlt2_t, n1, n2, n3, n4, n5, n6]
                refine hold_intro ?_
                refine U_condF (by simp only [SQ, hw1, hlt1_t, hb3, hlt2_t, n1, n2, n3, n4, n5, n6]) (U_exit rfl ?_)
                cases hlt2_e
                exact ⟨_, ⟨rfl, rfl, by first | rfl | simp only [SQ, hw1, hlt1_t, hb3, hlt2_t, n1, n2, n3, n4, n5, n6]⟩, s11⟩
            ·
              rintro a6 H11 ⟨v5, f6, s15⟩
              replace kj1 := Option.some.inj kj1
              subst kj1
              exact ⟨_, (f6.sub rfl), s15.sel [0, 1, 2] (by decide)⟩
          ·
            rw [if_neg (by rw [hb3]; decide)] at kj1
            refine U_condF (by simp only [SQ, hw1, hlt1_t, hb3, n1, n2, n3, n4, n5, n6]) ?_
            refine U_skip ?_
            have s16 := s4.nil' R3i
            replace kj1 := Option.some.inj kj1
            subst kj1
            exact ⟨_, ⟨rfl, rfl, by first | rfl | simp only [SQ, hw1, hlt1_t, hb3, n1, n2, n3, n4, n5, n6]⟩, s16.sel [1, 2, 0] (by decide)⟩
      ·
        rintro a2 H3 ⟨v3, f2, s5⟩
        refine U_fi f2 ?_
        refine U_fr 83 [(1, .pb d1 0 0), (3, v1), (4, .int .i64 i1), (5, v3)] rfl rfl rfl ?_
        refine U_fzS (l' := [(1, .pb d1 0 0), (3, v1), (4, .int .i64 i1), (5, .sim (l_1.map eInt) false)]) (M := [pt d1 ⟨5, [eFnc f_1]⟩, sl R37i v1 out_1]) 2 s5 rfl R3i_nl (.s (.s (.s (.x .o .id)))) .id fun H12 s17 => ?_
        obtain ⟨l2, kl2, hr1⟩ := bndO hr1
        refine U_reg ?_
        simp only [SQ, ty31, ty37, hw1, hlt1_t, n1, n2, n3, n4, n5, n6]
        refine N_sl ([l_1] : List (List Int)) R37i s17 rfl rfl (by first | rfl | simp only [SQ]) (by first | rfl | simp only [List.length_map, List.length_replicate]) (zip_flat rfl) ?_
        intro v8 H13 s18
        simp only [SQ, ty31, ty37, hw1, hlt1_t, n1, n2, n3, n4, n5, n6]
        refine N_app (xs := out_1) (ys := ([l_1] : List (List Int))) 2 s18 rfl rfl ty31 rfl ty31 rfl ty37 rfl rfl rfl (by decide) rfl (s18.srowsi 0 rfl) kl2 (fun _ _ e => by cases e) ?_
        intro v9 H14 s19
        simp only [SQ, hw1, hlt1_t, n1, n2, n3, n4, n5, n6]
        refine hold_intro ?_
        refine U_reg ?_
        simp only [SQ, hw1, hlt1_t, n1, n2, n3, n4, n5, n6]
        refine hold_intro ?_
        replace hr1 := Option.some.inj hr1
        subst hr1
        refine ⟨(i1 + 1, l2), ?_, hl2, Int.le_add_one hl1, _, ⟨rfl, rfl, by first | rfl | simp only [SQ, hw1, hlt1_t, n1, n2, n3, n4, n5, n6]⟩, s19.sel [2, 0] (by decide)⟩
        show ((f_1.blocks.length : Int) - (i1 + 1)).toNat < ((f_1.blocks.length : Int) - i1).toNat; omega
    ·
      have hlt1_e := forN_end hf1 hlt1
      have hlt1_t : decide (i1 < (f_1.blocks.length : Int)) = false := decide_eq_false hlt1
      refine U_seq (U_seq ?_)
      refine U_reg ?_
      simp only [SQ, ty26, ty24, s4.b 0 rfl, sFnc, len_sim ty24 rfl, hlt1_t, n1, n2, n3, n4, n5, n6]
      refine hold_intro ?_
      refine U_condF (by simp only [SQ, hlt1_t, n1, n2, n3, n4, n5, n6]) (U_exit rfl ?_)
      cases hlt1_e
      exact ⟨_, ⟨rfl, rfl, by first | rfl | simp only [SQ, hlt1_t, n1, n2, n3, n4, n5, n6]⟩, s4⟩
  ·
    rintro a7 H15 ⟨v2, f7, s20⟩
    refine U_fi f7 ?_
    refine U_seq ?_
    refine U_reg ?_
    simp only [SQ, n1, n2, n3, n4, n5, n6]
    refine hold_intro ?_
    refine U_ret ?_
    replace h := Option.some.inj h
    subst h
    refine ⟨v2, by simp only [ires, iress, Try.results16, SQ, List.toList_toArray, n1, n2, n3, n4, n5, n6], ?_⟩
    exact s20.fzS 1 rfl

theorem w_dyehouseref19_Reach {fuel : Nat} {succ_1 : List (List Int)} {fromv_1 : Int} {without_1 : Int} {r0_ : List Bool} (h : p_dyehouseref19_Reach fuel succ_1 fromv_1 without_1 = some r0_) : Pure1 Try.prog 24 [.sim (succ_1.map (eS eInt)) false, .int .i64 fromv_1, .int .i64 without_1] (.sim (r0_.map eBool) false) := by
  refine Pure1_S (all_cl (cl_map (cl_eS cl_eInt) succ_1) (all_cl (closed_int _ _) (all_cl (closed_int _ _) all_cl0))) fun F H s0 => ?_
  refine U_call 0 Try.func24 rfl (by kernel_rfl) (by simp [Try.ntmps24]) ?_
  rw [Try.ntmps24]
  refine U_fr 77 [(0, .sim (succ_1.map (eS eInt)) false), (1, .int .i64 fromv_1), (2, .int .i64 without_1)] rfl rfl rfl ?_
  unfold p_dyehouseref19_Reach at h
  refine U_seq ?_
  refine U_reg ?_
  simp only [SQ, n1, n2, n3, n4, n5, n6]
  refine hold_intro ?_
  refine U_seq ?_
  obtain ⟨l1, kl1, h⟩ := bndO h
  refine U_reg ?_
  simp only [SQ, len_sim ty31 rfl, ty42, ty4, imk_some (d := 13) (f := eBool) ty42 rfl ty4 rfl rfl (by decide) kl1, n1, n2, n3, n4, n5, n6]
  refine N_sl l1 R4i s0 rfl rfl (by first | rfl | simp only [SQ]) (by first | rfl | simp only [List.length_map, List.length_replicate]) (zip_flat rfl) ?_
  intro v1 H1 s1
  simp only [SQ, n1, n2, n3, n4, n5, n6]
  refine hold_intro ?_
  refine U_seq ?_
  refine U_seq ?_
  refine U_fr 77 [(0, .sim (succ_1.map (eS eInt)) false), (1, .int .i64 fromv_1), (2, .int .i64 without_1), (7, v1)] rfl rfl rfl ?_
  refine U_cut (fun a' H' => Fi a' 77 [(0, .sim (succ_1.map (eS eInt)) false), (1, .int .i64 fromv_1), (2, .int .i64 without_1), (7, v1), (26, .bool (((decide (fromv_1 < 0)) || (decide ((succ_1.length : Int) ≤ fromv_1))) || (decide (fromv_1 = without_1))))] ∧ H1 = H') ?_ ?_
  · refine U_reg ?_
    rcases Bool.eq_false_or_eq_true (decide (fromv_1 < 0)) with hb1 | hb1
    ·
      simp only [SQ, hb1, n1, n2, n3, n4, n5, n6]
      refine hold_intro ?_
      exact ⟨⟨rfl, rfl, by first | rfl | simp only [SQ, hb1, n1, n2, n3, n4, n5, n6]⟩, rfl⟩
    ·
      rcases Bool.eq_false_or_eq_true (decide ((succ_1.length : Int) ≤ fromv_1)) with hb2 | hb2
      ·
        simp only [SQ, len_sim ty31 rfl, hb1, hb2, n1, n2, n3, n4, n5, n6]
        refine hold_intro ?_
        exact ⟨⟨rfl, rfl, by first | rfl | simp only [SQ, hb1, hb2, n1, n2, n3, n4, n5, n6]⟩, rfl⟩
      ·
        simp only [SQ, len_sim ty31 rfl, hb1, hb2, n1, n2, n3, n4, n5, n6]
        refine hold_intro ?_
        exact ⟨⟨rfl, rfl, by first | rfl | simp only [SQ, hb1, hb2, n1, n2, n3, n4, n5, n6]⟩, rfl⟩
  · rintro a1 _ ⟨f1, rfl⟩
    refine U_fi f1 ?_
    rcases Bool.eq_false_or_eq_true ((((decide (fromv_1 < 0)) || (decide ((succ_1.length : Int) ≤ fromv_1))) || (decide (fromv_1 = without_1)))) with hb3 | hb3
    ·
      rw [if_pos hb3] at h
      refine U_condT (by simp only [SQ, hb3, n1, n2, n3, n4, n5, n6]) ?_
      refine U_seq ?_
      refine U_fr 77 [(7, v1)] rfl rfl rfl ?_
      refine U_reg ?_
      simp only [SQ, hb3, n1, n2, n3, n4, n5, n6]
      refine hold_intro ?_
      refine U_ret ?_
      replace h := Option.some.inj h
      subst h
      refine ⟨v1, by simp only [ires, iress, Try.results24, SQ, List.toList_toArray, hb3, n1, n2, n3, n4, n5, n6], ?_⟩
      exact s1.fzS 0 rfl
    ·
      rw [if_neg (by rw [hb3]; decide)] at h
      refine U_condF (by simp only [SQ, hb3, n1, n2, n3, n4, n5, n6]) ?_
      refine U_skip ?_
      refine U_seq ?_
      obtain ⟨x1, kx1, h⟩ := bndO h
      obtain ⟨l2, kl2, h⟩ := bndO h
      refine U_reg ?_
      obtain ⟨w1_i, w1_r, w1_a, w1_1⟩ := s1.at (P := Try.prog) (k := .i64) 0 rfl ty42 rfl ty4 rfl kx1
      simp only [SQ, ty42, ty4, w1_1, hb3, n1, n2, n3, n4, n5, n6]
      refine N_st (y := true) 0 s1 rfl w1_a kx1 ty4 rfl (by first | rfl | simp only [SQ, hb3, n1, n2, n3, n4, n5, n6]) (by first | decide | simp only [SQ, hb3, n1, n2, n3, n4, n5, n6] <;> decide) (by simp only [SQ, hb3, n1, n2, n3, n4, n5, n6]) (by first | rfl | simp only [SQ, hb3, n1, n2, n3, n4, n5, n6] <;> rfl) kl2 fun H3 s3 => ?_
      simp only [SQ, hb3, n1, n2, n3, n4, n5, n6]
      refine hold_intro ?_
      refine U_seq ?_
      refine U_seq ?_
      refine U_reg ?_
      simp only [SQ, hb3, n1, n2, n3, n4, n5, n6]
      refine hold_intro ?_
      refine U_fr 77 [(0, .sim (succ_1.map (eS eInt)) false), (2, .int .i64 without_1), (7, v1), (8, .int .i64 0)] rfl rfl rfl ?_
      obtain ⟨seen_2, he1, h⟩ := bndO h
      obtain ⟨hhi1, hlo1, he1⟩ := toN_facts he1
      refine U_cut (fun a' H' => Fi a' 77 [(7, v1)] ∧ HS F [sl R4i v1 seen_2] H') (U_block (U_loop (fun z_ a' H' => match z_ with | (i1, seen_1) => forN ((succ_1.length : Int) - i1).toNat i1 (fun i s => p_dyehouseref19_Reach_b1 fuel succ_1 without_1 i s) seen_1 = some seen_2 ∧ 0 ≤ i1 ∧ Fi a' 77 [(0, .sim (succ_1.map (eS eInt)) false), (2, .int .i64 without_1), (7, v1), (8, .int .i64 i1)] ∧ HS F [sl R4i v1 seen_1] H' : (Int × (List Bool)) → Fr → Heap → Prop) (fun z_ : Int × (List Bool) => ((succ_1.length : Int) - z_.1).toNat) (0, l2) ?_ ?_)) ?_
      · exact ⟨he1, Int.le_refl _, ⟨rfl, rfl, by first | rfl | simp only [SQ, hb3, n1, n2, n3, n4, n5, n6]⟩, s3⟩
      ·
        rintro ⟨i1, seen_1⟩ a2 H4 ⟨hf1, hl1, f2, s4⟩
        refine U_fi f2 ?_
        by_cases hlt1 : i1 < (succ_1.length : Int)
        ·
          obtain ⟨u2, hr1, hl2⟩ := forN_step hf1 hlt1
          replace hr1 : p_dyehouseref19_Reach_b1 fuel succ_1 without_1 i1 seen_1 = some u2 := hr1
          unfold p_dyehouseref19_Reach_b1 at hr1
          have hw1 := wrap_next hlt1 hhi1 hlo1 hl1
          have hlt1_t : decide (i1 < (succ_1.length : Int)) = true := decide_eq_true hlt1
          refine U_seq (U_seq ?_)
          refine U_reg ?_
          simp only [SQ, len_sim ty31 rfl, hb3, hw1, hlt1_t, n1, n2, n3, n4, n5, n6]
          refine hold_intro ?_
          refine U_condT (by simp only [SQ, hb3, hw1, hlt1_t, n1, n2, n3, n4, n5, n6]) (U_skip ?_)
          refine U_seq ?_
          refine U_block ?_
          refine U_seq ?_
          refine U_reg ?_
          simp only [SQ, hb3, hw1, hlt1_t, n1, n2, n3, n4, n5, n6]
          refine hold_intro ?_
          refine U_fr 77 [(0, .sim (succ_1.map (eS eInt)) false), (2, .int .i64 without_1), (7, v1), (8, .int .i64 i1), (9, .int .i64 0)] rfl rfl rfl ?_
          obtain ⟨seen_4, he2, hr1⟩ := bndO hr1
          obtain ⟨hhi2, hlo2, he2⟩ := toN_facts he2
          refine U_cut (fun a' H' => Fi a' 77 [(0, .sim (succ_1.map (eS eInt)) false), (2, .int .i64 without_1), (7, v1), (8, .int .i64 i1)] ∧ HS F [sl R4i v1 seen_4] H') (U_block (U_loop (fun z_ a' H' => match z_ with | (i2, seen_3) => forN ((succ_1.length : Int) - i2).toNat i2 (fun i s => p_dyehouseref19_Reach_b2 fuel succ_1 without_1 i s) seen_3 = some seen_4 ∧ 0 ≤ i2 ∧ Fi a' 77 [(0, .sim (succ_1.map (eS eInt)) false), (2, .int .i64 without_1), (7, v1), (8, .int .i64 i1), (9, .int .i64 i2)] ∧ HS F [sl R4i v1 seen_3] H' : (Int × (List Bool)) → Fr → Heap → Prop) (fun z_ : Int × (List Bool) => ((succ_1.length : Int) - z_.1).toNat) (0, seen_1) ?_ ?_)) ?_
          · exact ⟨he2, Int.le_refl _, ⟨rfl, rfl, by first | rfl | simp only [SQ, hb3, hw1, hlt1_t, n1, n2, n3, n4, n5, n6]⟩, s4⟩
          ·
            rintro ⟨i2, seen_3⟩ a3 H5 ⟨hf2, hl3, f3, s5⟩
            refine U_fi f3 ?_
            by_cases hlt2 : i2 < (succ_1.length : Int)
            ·
              obtain ⟨u4, hr2, hl4⟩ := forN_step hf2 hlt2
              replace hr2 : p_dyehouseref19_Reach_b2 fuel succ_1 without_1 i2 seen_3 = some u4 := hr2
              unfold p_dyehouseref19_Reach_b2 at hr2
              have hw2 := wrap_next hlt2 hhi2 hlo2 hl3
              have hlt2_t : decide (i2 < (succ_1.length : Int)) = true := decide_eq_true hlt2
              refine U_seq (U_seq ?_)
              refine U_reg ?_
              simp only [SQ, len_sim ty31 rfl, hb3, hw1, hlt1_t, hw2, hlt2_t, n1, n2, n3, n4, n5, n6]
              refine hold_intro ?_
              refine U_condT (by simp only [SQ, hb3, hw1, hlt1_t, hw2, hlt2_t, n1, n2, n3, n4, n5, n6]) (U_skip ?_)
              refine U_seq ?_
              refine U_block ?_
              refine U_seq ?_
              refine U_reg ?_
              simp only [SQ, hb3, hw1, hlt1_t, hw2, hlt2_t, n1, n2, n3, n4, n5, n6]
              refine hold_intro ?_
              refine U_fr 77 [(0, .sim (succ_1.map (eS eInt)) false), (2, .int .i64 without_1), (7, v1), (8, .int .i64 i1), (9, .int .i64 i2), (10, .int .i64 0)] rfl rfl rfl ?_
              obtain ⟨u5, he3, hr2⟩ := bndE hr2
              refine U_cut (fun a' H' => ∃ k_1 : Int, ∃ seen_5 : List Bool, u5 = .n (k_1, seen_5) ∧ Fi a' 77 [(0, .sim (succ_1.map (eS eInt)) false), (2, .int .i64 without_1), (7, v1), (8, .int .i64 i1), (9, .int .i64 i2)] ∧ HS F [sl R4i v1 seen_5] H') (U_block (U_loop (fun z_ a' H' => match z_ with | (m1, k_1, seen_5) => loopE m1 (fun s => p_dyehouseref19_Reach_b3 fuel succ_1 without_1 i2 s.1 s.2) (k_1, seen_5) = some u5 ∧ Fi a' 77 [(0, .sim (succ_1.map (eS eInt)) false), (2, .int .i64 without_1), (7, v1), (8, .int .i64 i1), (9, .int .i64 i2), (10, .int .i64 k_1)] ∧ HS F [sl R4i v1 seen_5] H' : (Nat × Int × (List Bool)) → Fr → Heap → Prop) (fun z_ : Nat × Int × (List Bool) => z_.1) (fuel, 0, seen_3) ?_ ?_)) ?_
              · exact ⟨he3, ⟨rfl, rfl, by first | rfl | simp only [SQ, hb3, hw1, hlt1_t, hw2, hlt2_t, n1, n2, n3, n4, n5, n6]⟩, s5⟩
              ·
                rintro ⟨m1, k_1, seen_5⟩ a4 H6 ⟨hf3, f4, s6⟩
                refine U_fi f4 ?_
                obtain ⟨m1', m1_lt, u6, hr3, hl6⟩ := loopE_step hf3
                replace hr3 : p_dyehouseref19_Reach_b3 fuel succ_1 without_1 i2 k_1 seen_5 = some u6 := hr3
                unfold p_dyehouseref19_Reach_b3 at hr3
                refine U_seq ?_
                refine U_seq ?_
                obtain ⟨x2, kx2, hr3⟩ := bndO hr3
                obtain ⟨b1, kb1, hr3⟩ := bndO hr3
                refine U_cut (fun a' H' => Fi a' 77 [(0, .sim (succ_1.map (eS eInt)) false), (2, .int .i64 without_1), (7, v1), (8, .int .i64 i1), (9, .int .i64 i2), (10, .int .i64 k_1), (55, .bool b1)] ∧ H6 = H') ?_ ?_
                · refine U_reg ?_
                  rcases Bool.eq_false_or_eq_true (x2) with hb4 | hb4
                  ·
                    have hx1 := hb4
                    rw [if_pos hx1] at kb1
                    obtain ⟨x3, kx3, kb1⟩ := bndO kb1
                    have hq1 := (Option.some.inj kb1).symm
                    obtain ⟨w2_i, w2_r, w2_a, w2_1⟩ := s6.at (P := Try.prog) (k := .i64) 0 rfl ty42 rfl ty4 rfl kx2
                    simp only [SQ, ty42, ty4, w2_1, s6.row 0 rfl w2_a kx2, ty31, ty37, iia_sim (f := eS eInt) ty31 rfl ty37 kx3 rfl, row_sim (f := eS eInt) kx3, len_sim ty37 rfl, hb3, hw1, hlt1_t, hw2, hlt2_t, hb4, hq1, n1, n2, n3, n4, n5, n6]
                    refine hold_intro ?_
                    exact ⟨⟨rfl, rfl, by first | rfl | simp only [SQ, hb3, hw1, hlt1_t, hw2, hlt2_t, hb4, hq1, n1, n2, n3, n4, n5, n6]⟩, rfl⟩
                  ·
                    have hx2 := hb4
                    rw [if_neg (by rw [hx2]; decide)] at kb1
                    have hq2 := (Option.some.inj kb1).symm
                    obtain ⟨w2_i, w2_r, w2_a, w2_1⟩ := s6.at (P := Try.prog) (k := .i64) 0 rfl ty42 rfl ty4 rfl kx2
                    simp only [SQ, ty42, ty4, w2_1, s6.row 0 rfl w2_a kx2, hb3, hw1, hlt1_t, hw2, hlt2_t, hb4, hq2, n1, n2, n3, n4, n5, n6]
                    refine hold_intro ?_
                    exact ⟨⟨rfl, rfl, by first | rfl | simp only [SQ, hb3, hw1, hlt1_t, hw2, hlt2_t, hb4, hq2, n1, n2, n3, n4, n5, n6]⟩, rfl⟩
                · rintro a5 _ ⟨f5, rfl⟩
                  refine U_fi f5 ?_
                  rcases Bool.eq_false_or_eq_true (b1) with hb5 | hb5
                  ·
                    rw [if_pos hb5] at hr3
                    refine U_condT (by simp only [SQ, hb3, hw1, hlt1_t, hw2, hlt2_t, hb5, n1, n2, n3, n4, n5, n6]) ?_
                    refine U_skip ?_
                    refine U_seq ?_
                    refine U_fr 77 [(0, .sim (succ_1.map (eS eInt)) false), (2, .int .i64 without_1), (7, v1), (8, .int .i64 i1), (9, .int .i64 i2), (10, .int .i64 k_1)] rfl rfl rfl ?_
                    obtain ⟨seen_7, kj1, hr3⟩ := bndO hr3
                    refine U_cut (fun a' H' => Fi a' 77 [(0, .sim (succ_1.map (eS eInt)) false), (2, .int .i64 without_1), (7, v1), (8, .int .i64 i1), (9, .int .i64 i2), (10, .int .i64 k_1)] ∧ HS F [sl R4i v1 seen_7] H') ?_ ?_
                    ·
                      refine U_block ?_
                      refine U_seq ?_
                      obtain ⟨x4, kx4, kj1⟩ := bndO kj1
                      obtain ⟨x5, kx5, kj1⟩ := bndO kj1
                      refine U_reg ?_
                      simp only [SQ, ty31, ty37, iia_sim (f := eS eInt) ty31 rfl ty37 kx4 rfl, row_sim (f := eS eInt) kx4, ty3, iia_sim (f := eInt) ty37 rfl ty3 kx5 rfl, row_sim (f := eInt) kx5, hb3, hw1, hlt1_t, hw2, hlt2_t, hb5, n1, n2, n3, n4, n5, n6]
                      refine hold_intro ?_
                      rcases Bool.eq_false_or_eq_true (decide (x5 ≠ without_1)) with hb6 | hb6
                      ·
                        rw [if_pos hb6] at kj1
                        refine U_condT (by simp only [SQ, hb3, hw1, hlt1_t, hw2, hlt2_t, hb5, hb6, n1, n2, n3, n4, n5, n6]) ?_
                        obtain ⟨x6, kx6, kj1⟩ := bndO kj1
                        obtain ⟨l3, kl3, kj1⟩ := bndO kj1
                        refine U_reg ?_
                        obtain ⟨w3_i, w3_r, w3_a, w3_1⟩ := s6.at (P := Try.prog) (k := .i64) 0 rfl ty42 rfl ty4 rfl kx6
                        simp only [SQ, ty31, ty37, iia_sim (f := eS eInt) ty31 rfl ty37 kx4 rfl, row_sim (f := eS eInt) kx4, ty3, iia_sim (f := eInt) ty37 rfl ty3 kx5 rfl, row_sim (f := eInt) kx5, ty42, ty4, w3_1, hb3, hw1, hlt1_t, hw2, hlt2_t, hb5, hb6, n1, n2, n3, n4, n5, n6]
                        refine N_st (y := true) 0 s6 rfl w3_a kx6 ty4 rfl (by first | rfl | simp only [SQ, hb3, hw1, hlt1_t, hw2, hlt2_t, hb5, hb6, n1, n2, n3, n4, n5, n6]) (by first | decide | simp only [SQ, hb3, hw1, hlt1_t, hw2, hlt2_t, hb5, hb6, n1, n2, n3, n4, n5, n6] <;> decide) (by simp only [SQ, hb3, hw1, hlt1_t, hw2, hlt2_t, hb5, hb6, n1, n2, n3, n4, n5, n6]) (by first | rfl | simp only [SQ, hb3, hw1, hlt1_t, hw2, hlt2_t, hb5, hb6, n1, n2, n3, n4, n5, n6] <;> rfl) kl3 fun H9 s9 => ?_
                        simp only [SQ, hb3, hw1, hlt1_t, hw2, hlt2_t, hb5, hb6, n1, n2, n3, n4, n5, n6]
                        refine hold_intro ?_
                        replace kj1 := Option.some.inj kj1
                        subst kj1
                        exact ⟨⟨rfl, rfl, by first | rfl | simp only [SQ, hb3, hw1, hlt1_t, hw2, hlt2_t, hb5, hb6, n1, n2, n3, n4, n5, n6]⟩, s9⟩
                      ·
                        rw [if_neg (by rw [hb6]; decide)] at kj1
                        refine U_condF (by simp only [SQ, hb3, hw1, hlt1_t, hw2, hlt2_t, hb5, hb6, n1, n2, n3, n4, n5, n6]) ?_
                        refine U_skip ?_
                        replace kj1 := Option.some.inj kj1
                        subst kj1
                        exact ⟨⟨rfl, rfl, by first | rfl | simp only [SQ, hb3, hw1, hlt1_t, hw2, hlt2_t, hb5, hb6, n1, n2, n3, n4, n5, n6]⟩, s6⟩
                    ·
                      rintro a6 H8 ⟨f6, s8⟩
                      refine U_fi f6 ?_
                      refine U_reg ?_
                      simp only [SQ, hb3, hw1, hlt1_t, hw2, hlt2_t, hb5, n1, n2, n3, n4, n5, n6]
                      refine hold_intro ?_
                      replace hr3 := Option.some.inj hr3
                      subst hr3
                      exact ⟨(m1', IntKind.wrap .i64 (k_1 + 1), seen_7), m1_lt, hl6, ⟨rfl, rfl, by first | rfl | simp only [SQ, hb3, hw1, hlt1_t, hw2, hlt2_t, hb5, n1, n2, n3, n4, n5, n6]⟩, s8⟩
                  ·
                    rw [if_neg (by rw [hb5]; decide)] at hr3
                    refine U_condF (by simp only [SQ, hb3, hw1, hlt1_t, hw2, hlt2_t, hb5, n1, n2, n3, n4, n5, n6]) ?_
                    refine U_exit rfl ?_
                    replace hr3 := Option.some.inj hr3
                    subst hr3
                    exact ⟨_, _, hl6, ⟨rfl, rfl, by first | rfl | simp only [SQ, hb3, hw1, hlt1_t, hw2, hlt2_t, hb5, n1, n2, n3, n4, n5, n6]⟩, s6⟩
              ·
                rintro a7 H10 ⟨k_2, seen_6, rfl, f7, s10⟩
                replace hr2 := outE_n hr2
                dsimp only at hr2
                refine U_fi f7 ?_
                refine U_reg ?_
                simp only [SQ, hb3, hw1, hlt1_t, hw2, hlt2_t, n1, n2, n3, n4, n5, n6]
                refine hold_intro ?_
                replace hr2 := Option.some.inj hr2
                subst hr2
                refine ⟨(i2 + 1, seen_6), ?_, hl4, Int.le_add_one hl3, ⟨rfl, rfl, by first | rfl | simp only [SQ, hb3, hw1, hlt1_t, hw2, hlt2_t, n1, n2, n3, n4, n5, n6]⟩, s10⟩
                show ((succ_1.length : Int) - (i2 + 1)).toNat < ((succ_1.length : Int) - i2).toNat; omega
            ·
              have hlt2_e := forN_end hf2 hlt2
              have hlt2_t : decide (i2 < (succ_1.length : Int)) = false := decide_eq_false hlt2
              refine U_seq (U_seq ?_)
              refine U_reg ?_
              simp only [SQ, len_sim ty31 rfl, hb3, hw1, hlt1_t, hlt2_t, n1, n2, n3, n4, n5, n6]
              refine hold_intro ?_
              refine U_condF (by simp only [SQ, hb3, hw1, hlt1_t, hlt2_t, n1, n2, n3, n4, n5, n6]) (U_exit rfl ?_)
              cases hlt2_e
              exact ⟨⟨rfl, rfl, by first | rfl | simp only [SQ, hb3, hw1, hlt1_t, hlt2_t, n1, n2, n3, n4, n5, n6]⟩, s5⟩
          ·
            rintro a8 H11 ⟨f8, s11⟩
            refine U_fi f8 ?_
            refine U_reg ?_
            simp only [SQ, hb3, hw1, hlt1_t, n1, n2, n3, n4, n5, n6]
            refine hold_intro ?_
            replace hr1 := Option.some.inj hr1
            subst hr1
            refine ⟨(i1 + 1, seen_4), ?_, hl2, Int.le_add_one hl1, ⟨rfl, rfl, by first | rfl | simp only [SQ, hb3, hw1, hlt1_t, n1, n2, n3, n4, n5, n6]⟩, s11⟩
            show ((succ_1.length : Int) - (i1 + 1)).toNat < ((succ_1.length : Int) - i1).toNat; omega
        ·
          have hlt1_e := forN_end hf1 hlt1
          have hlt1_t : decide (i1 < (succ_1.length : Int)) = false := decide_eq_false hlt1
          refine U_seq (U_seq ?_)
          refine U_reg ?_
          simp only [SQ, len_sim ty31 rfl, hb3, hlt1_t, n1, n2, n3, n4, n5, n6]
          refine hold_intro ?_
          refine U_condF (by simp only [SQ, hb3, hlt1_t, n1, n2, n3, n4, n5, n6]) (U_exit rfl ?_)
          cases hlt1_e
          exact ⟨⟨rfl, rfl, by first | rfl | simp only [SQ, hb3, hlt1_t, n1, n2, n3, n4, n5, n6]⟩, s4⟩
      ·
        rintro a9 H12 ⟨f9, s12⟩
        refine U_fi f9 ?_
        refine U_seq ?_
        refine U_reg ?_
        simp only [SQ, hb3, n1, n2, n3, n4, n5, n6]
        refine hold_intro ?_
        refine U_ret ?_
        replace h := Option.some.inj h
        subst h
        refine ⟨v1, by simp only [ires, iress, Try.results24, SQ, List.toList_toArray, hb3, n1, n2, n3, n4, n5, n6], ?_⟩
        exact s12.fzS 0 rfl

theorem w_dyehouselaw19_GraphOrder {fuel : Nat} {d_1 : Drf} {r0_ : Bool} (h : p_dyehouselaw19_GraphOrder fuel d_1 = some r0_) : Pure1 Try.prog 5 [.agg (eDrf d_1)] (.bool r0_) := by
  refine Pure1_S (all_cl (cl_agg (cl_eDrf _)) all_cl0) fun F H s0 => ?_
  refine U_call 0 Try.func5 rfl (by kernel_rfl) (by simp [Try.ntmps5]) ?_
  rw [Try.ntmps5]
  refine U_fr 124 [(0, .agg (eDrf d_1))] rfl rfl rfl ?_
  unfold p_dyehouselaw19_GraphOrder at h
  refine U_seq ?_
  refine U_reg ?_
  simp only [SQ, ty54, sDrf, n1, n2, n3, n4, n5, n6]
  refine N_box s0 rfl fun d1 H1 s1 => ?_
  simp only [SQ, n1, n2, n3, n4, n5, n6]
  refine hold_intro ?_
  refine U_seq ?_
  refine U_seq ?_
  obtain ⟨r1, kr1, h⟩ := bndO h
  refine U_reg ?_
  simp only [SQ, ty54, s1.b 0 rfl, sDrf, n1, n2, n3, n4, n5, n6]
  refine callP (w_dyehouseref12_Many kr1) ?_
  simp only [SQ, n1, n2, n3, n4, n5, n6]
  refine hold_intro ?_
  rcases Bool.eq_false_or_eq_true (r1) with hb1 | hb1
  ·
    rw [if_pos hb1] at h
    refine U_condT (by simp only [SQ, hb1, n1, n2, n3, n4, n5, n6]) ?_
    refine U_seq ?_
    obtain ⟨r2, kr2, h⟩ := bndO h
    refine U_reg ?_
    simp only [SQ, hb1, n1, n2, n3, n4, n5, n6]
    refine callP (w_dyehouselaw19_works kr2) ?_
    simp only [SQ, hb1, n1, n2, n3, n4, n5, n6]
    refine hold_intro ?_
    refine U_ret ?_
    replace h := Option.some.inj h
    subst h
    refine ⟨.bool r2, by simp only [ires, iress, Try.results5, SQ, List.toList_toArray, hb1, n1, n2, n3, n4, n5, n6], ?_⟩
    exact .cl (closed_bool _)
  ·
    rw [if_neg (by rw [hb1]; decide)] at h
    refine U_condF (by simp only [SQ, hb1, n1, n2, n3, n4, n5, n6]) ?_
    refine U_skip ?_
    refine U_seq ?_
    obtain ⟨r3, kr3, h⟩ := bndO h
    refine U_reg ?_
    simp only [SQ, ty54, s1.b 0 rfl, sDrf, hb1, n1, n2, n3, n4, n5, n6]
    refine callP (w_dyehouseref12_Make kr3) ?_
    simp only [SQ, ty26, hb1, n1, n2, n3, n4, n5, n6]
    refine N_box s1 rfl fun d2 H2 s2 => ?_
    simp only [SQ, ty26, sFnc, splice_all', s2.b 0 rfl, hb1, n1, n2, n3, n4, n5, n6]
    refine N_put 0 s2 rfl fun H3 s3 => ?_
    simp only [SQ, hb1, n1, n2, n3, n4, n5, n6]
    refine hold_intro ?_
    refine U_seq ?_
    obtain ⟨r4, kr4, h⟩ := bndO h
    refine U_reg ?_
    simp only [SQ, ty26, s3.b 0 rfl, sFnc, hb1, n1, n2, n3, n4, n5, n6]
    refine callP (w_graph_New kr4) ?_
    simp only [SQ, hb1, n1, n2, n3, n4, n5, n6]
    refine hold_intro ?_
    refine U_seq ?_
    refine U_fr 124 [(3, .pb d2 0 0), (4, .pim [egraph_Graph r4] 0 0)] rfl rfl rfl ?_
    obtain ⟨r5, kr5, h⟩ := bndO h
    refine U_reg ?_
    simp only [SQ, hb1, n1, n2, n3, n4, n5, n6]
    refine callP (w_graph_Graph_Order kr5) ?_
    simp only [SQ, hb1, n1, n2, n3, n4, n5, n6]
    refine hold_intro ?_
    refine U_seq ?_
    obtain ⟨r6, kr6, h⟩ := bndO h
    refine U_reg ?_
    simp only [SQ, ty26, s3.b 0 rfl, sFnc, hb1, n1, n2, n3, n4, n5, n6]
    refine callP (w_dyehouseref19_Succ kr6) ?_
    simp only [SQ, hb1, n1, n2, n3, n4, n5, n6]
    refine hold_intro ?_
    refine U_seq ?_
    refine U_seq ?_
    refine U_fr 124 [(4, .pim [egraph_Graph r4] 0 0), (5, .sim (r5.map eInt) false), (6, .sim (r6.map (eS eInt)) false)] rfl rfl rfl ?_
    obtain ⟨b1, kb1, h⟩ := bndO h
    refine U_cut (fun a' H' => Fi a' 124 [(4, .pim [egraph_Graph r4] 0 0), (5, .sim (r5.map eInt) false), (6, .sim (r6.map (eS eInt)) false), (33, .bool b1)] ∧ H3 = H') ?_ ?_
    · refine U_reg ?_
      rcases Bool.eq_false_or_eq_true (decide ((r5.length : Int) ≠ (r6.length : Int))) with hb2 | hb2
      ·
        have hx1 := hb2
        rw [if_pos hx1] at kb1
        have hq1 := (Option.some.inj kb1).symm
        simp only [SQ, len_sim ty37 rfl, len_sim ty31 rfl, hb1, hb2, hq1, n1, n2, n3, n4, n5, n6]
        refine hold_intro ?_
        exact ⟨⟨rfl, rfl, by first | rfl | simp only [SQ, hb1, hb2, hq1, n1, n2, n3, n4, n5, n6]⟩, rfl⟩
      ·
        have hx2 := hb2
        rw [if_neg (by rw [hx2]; decide)] at kb1
        obtain ⟨x1, kx1, kb1⟩ := bndO kb1
        have hq2 := (Option.some.inj kb1).symm
        simp only [SQ, len_sim ty37 rfl, len_sim ty31 rfl, ty37, ty3, iia_sim (f := eInt) ty37 rfl ty3 kx1 rfl, row_sim (f := eInt) kx1, hb1, hb2, hq2, n1, n2, n3, n4, n5, n6]
        refine hold_intro ?_
        exact ⟨⟨rfl, rfl, by first | rfl | simp only [SQ, hb1, hb2, hq2, n1, n2, n3, n4, n5, n6]⟩, rfl⟩
    · rintro a1 _ ⟨f1, rfl⟩
      refine U_fi f1 ?_
      rcases Bool.eq_false_or_eq_true (b1) with hb3 | hb3
      ·
        rw [if_pos hb3] at h
        refine U_condT (by simp only [SQ, hb1, hb3, n1, n2, n3, n4, n5, n6]) ?_
        refine U_seq ?_
        refine U_reg ?_
        simp only [SQ, hb1, hb3, n1, n2, n3, n4, n5, n6]
        refine hold_intro ?_
        refine U_ret ?_
        replace h := Option.some.inj h
        subst h
        refine ⟨.bool false, by simp only [ires, iress, Try.results5, SQ, List.toList_toArray, hb1, hb3, n1, n2, n3, n4, n5, n6], ?_⟩
        exact .cl (closed_bool _)
      ·
        rw [if_neg (by rw [hb3]; decide)] at h
        refine U_condF (by simp only [SQ, hb1, hb3, n1, n2, n3, n4, n5, n6]) ?_
        refine U_skip ?_
        refine U_seq ?_
        refine U_seq ?_
        refine U_reg ?_
        simp only [SQ, hb1, hb3, n1, n2, n3, n4, n5, n6]
        refine hold_intro ?_
        refine U_fr 124 [(4, .pim [egraph_Graph r4] 0 0), (5, .sim (r5.map eInt) false), (6, .sim (r6.map (eS eInt)) false), (7, .int .i64 1)] rfl rfl rfl ?_
        obtain ⟨u1, he1, h⟩ := bndE h
        obtain ⟨hhi1, hlo1, he1⟩ := toE_facts he1
        refine U_cut (fun a' H' => u1 = .n () ∧ Fi a' 124 [] ∧ HS F [] H') (U_block (U_loop (fun z_ a' H' => match z_ with | i1 => forE ((r5.length : Int) - i1).toNat i1 (fun i _ => p_dyehouselaw19_GraphOrder_b1 fuel r4 r5 r6 i) () = some u1 ∧ 1 ≤ i1 ∧ Fi a' 124 [(4, .pim [egraph_Graph r4] 0 0), (5, .sim (r5.map eInt) false), (6, .sim (r6.map (eS eInt)) false), (7, .int .i64 i1)] ∧ HS F [] H' : Int → Fr → Heap → Prop) (fun z_ : Int => ((r5.length : Int) - z_).toNat) 1 ?_ ?_)) ?_
        · exact ⟨he1, Int.le_refl _, ⟨rfl, rfl, by first | rfl | simp only [SQ, hb1, hb3, n1, n2, n3, n4, n5, n6]⟩, s3.sel [] (by decide)⟩
        ·
          rintro i1 a2 H5 ⟨hf1, hl1, f2, s5⟩
          refine U_fi f2 ?_
          by_cases hlt1 : i1 < (r5.length : Int)
          ·
            obtain ⟨u2, hr1, hl2⟩ := forE_step hf1 hlt1
            replace hr1 : p_dyehouselaw19_GraphOrder_b1 fuel r4 r5 r6 i1 = some u2 := hr1
            unfold p_dyehouselaw19_GraphOrder_b1 at hr1
            have hw1 := wrap_next hlt1 hhi1 hlo1 hl1
            have hlt1_t : decide (i1 < (r5.length : Int)) = true := decide_eq_true hlt1
            refine U_seq (U_seq ?_)
            refine U_reg ?_
            simp only [SQ, len_sim ty37 rfl, hb1, hb3, hw1, hlt1_t, n1, n2, n3, n4, n5, n6]
            refine hold_intro ?_
            refine U_condT (by simp only [SQ, hb1, hb3, hw1, hlt1_t, n1, n2, n3, n4, n5, n6]) (U_skip ?_)
            refine U_seq ?_
            refine U_block ?_
            refine U_seq ?_
            refine U_fr 124 [(4, .pim [egraph_Graph r4] 0 0), (5, .sim (r5.map eInt) false), (6, .sim (r6.map (eS eInt)) false), (7, .int .i64 i1)] rfl rfl rfl ?_
            obtain ⟨x2, kx2, hr1⟩ := bndO hr1
            obtain ⟨r7, kr7, hr1⟩ := bndO hr1
            refine U_reg ?_
            simp only [SQ, ty37, ty3, iia_sim (f := eInt) ty37 rfl ty3 kx2 rfl, row_sim (f := eInt) kx2, hb1, hb3, hw1, hlt1_t, n1, n2, n3, n4, n5, n6]
            refine callP (w_graph_Graph_Pred kr7) ?_
            simp only [SQ, hb1, hb3, hw1, hlt1_t, n1, n2, n3, n4, n5, n6]
            refine hold_intro ?_
            refine U_seq ?_
            refine U_reg ?_
            simp only [SQ, hb1, hb3, hw1, hlt1_t, n1, n2, n3, n4, n5, n6]
            refine hold_intro ?_
            refine U_seq ?_
            refine U_seq ?_
            refine U_reg ?_
            simp only [SQ, hb1, hb3, hw1, hlt1_t, n1, n2, n3, n4, n5, n6]
            refine hold_intro ?_
            refine U_fr 124 [(4, .pim [egraph_Graph r4] 0 0), (5, .sim (r5.map eInt) false), (6, .sim (r6.map (eS eInt)) false), (7, .int .i64 i1), (8, .sim (r7.map eInt) false), (9, .bool false), (10, .int .i64 0)] rfl rfl rfl ?_
            obtain ⟨u3, he2, hr1⟩ := bndE hr1
            obtain ⟨hhi2, hlo2, he2⟩ := toE_facts he2
            refine U_cut (fun a' H' => ∃ some_1 : Bool, u3 = .n some_1 ∧ Fi a' 124 [(4, .pim [egraph_Graph r4] 0 0), (5, .sim (r5.map eInt) false), (6, .sim (r6.map (eS eInt)) false), (7, .int .i64 i1), (9, .bool some_1)] ∧ HS F [] H') (U_block (U_loop (fun z_ a' H' => match z_ with | (i2, some_1) => forE ((r7.length : Int) - i2).toNat i2 (fun i s => p_dyehouselaw19_GraphOrder_b2 fuel r5 r6 i1 x2 r7 i s) some_1 = some u3 ∧ 0 ≤ i2 ∧ Fi a' 124 [(4, .pim [egraph_Graph r4] 0 0), (5, .sim (r5.map eInt) false), (6, .sim (r6.map (eS eInt)) false), (7, .int .i64 i1), (8, .sim (r7.map eInt) false), (9, .bool some_1), (10, .int .i64 i2)] ∧ HS F [] H' : (Int × Bool) → Fr → Heap → Prop) (fun z_ : Int × Bool => ((r7.length : Int) - z_.1).toNat) (0, false) ?_ ?_)) ?_
            · exact ⟨he2, Int.le_refl _, ⟨rfl, rfl, by first | rfl | simp only [SQ, hb1, hb3, hw1, hlt1_t, n1, n2, n3, n4, n5, n6]⟩, s5⟩
            ·
              rintro ⟨i2, some_1⟩ a3 H6 ⟨hf2, hl3, f3, s6⟩
              refine U_fi f3 ?_
              by_cases hlt2 : i2 < (r7.length : Int)
              ·
                obtain ⟨u4, hr2, hl4⟩ := forE_step hf2 hlt2
                replace hr2 : p_dyehouselaw19_GraphOrder_b2 fuel r5 r6 i1 x2 r7 i2 some_1 = some u4 := hr2
                unfold p_dyehouselaw19_GraphOrder_b2 at hr2
                have hw2 := wrap_next hlt2 hhi2 hlo2 hl3
                have hlt2_t : decide (i2 < (r7.length : Int)) = true := decide_eq_true hlt2
                refine U_seq (U_seq ?_)
                refine U_reg ?_
                simp only [SQ, len_sim ty37 rfl, hb1, hb3, hw1, hlt1_t, hw2, hlt2_t, n1, n2, n3, n4, n5, n6]
                refine hold_intro ?_
                refine U_condT (by simp only [SQ, hb1, hb3, hw1, hlt1_t, hw2, hlt2_t, n1, n2, n3, n4, n5, n6]) (U_skip ?_)
                refine U_seq ?_
                refine U_block ?_
                refine U_seq ?_
                refine U_seq ?_
                refine U_fr 124 [(4, .pim [egraph_Graph r4] 0 0), (5, .sim (r5.map eInt) false), (6, .sim (r6.map (eS eInt)) false), (7, .int .i64 i1), (8, .sim (r7.map eInt) false), (9, .bool some_1), (10, .int .i64 i2)] rfl rfl rfl ?_
                obtain ⟨x3, kx3, hr2⟩ := bndO hr2
                refine U_cut (fun a' H' => Fi a' 124 [(4, .pim [egraph_Graph r4] 0 0), (5, .sim (r5.map eInt) false), (6, .sim (r6.map (eS eInt)) false), (7, .int .i64 i1), (8, .sim (r7.map eInt) false), (9, .bool some_1), (10, .int .i64 i2), (81, .bool ((((decide (x3 < 0)) || (decide ((r6.length : Int) ≤ x3))) || (decide (x2 < 0))) || (decide ((r6.length : Int) ≤ x2))))] ∧ H6 = H') ?_ ?_
                · refine U_reg ?_
                  rcases Bool.eq_false_or_eq_true (decide (x3 < 0)) with hb4 | hb4
                  ·
                    simp only [SQ, ty37, ty3, iia_sim (f := eInt) ty37 rfl ty3 kx3 rfl, row_sim (f := eInt) kx3, hb1, hb3, hw1, hlt1_t, hw2, hlt2_t, hb4, n1, n2, n3, n4, n5, n6]
                    refine hold_intro ?_
                    exact ⟨⟨rfl, rfl, by first | rfl | simp only [SQ, hb1, hb3, hw1, hlt1_t, hw2, hlt2_t, hb4, n1, n2, n3, n4, n5, n6]⟩, rfl⟩
                  ·
                    rcases Bool.eq_false_or_eq_true (decide ((r6.length : Int) ≤ x3)) with hb5 | hb5
                    ·
                      simp only [SQ, ty37, ty3, iia_sim (f := eInt) ty37 rfl ty3 kx3 rfl, row_sim (f := eInt) kx3, len_sim ty31 rfl, hb1, hb3, hw1, hlt1_t, hw2, hlt2_t, hb4, hb5, n1, n2, n3, n4, n5, n6]
                      refine hold_intro ?_
                      exact ⟨⟨rfl, rfl, by first | rfl | simp only [SQ, hb1, hb3, hw1, hlt1_t, hw2, hlt2_t, hb4, hb5, n1, n2, n3, n4, n5, n6]⟩, rfl⟩
                    ·
                      rcases Bool.eq_false_or_eq_true (decide (x2 < 0)) with hb6 | hb6
                      ·
                        simp only [SQ, ty37, ty3, iia_sim (f := eInt) ty37 rfl ty3 kx3 rfl, row_sim (f := eInt) kx3, len_sim ty31 rfl, iia_sim (f := eInt) ty37 rfl ty3 kx2 rfl, row_sim (f := eInt) kx2, hb1, hb3, hw1, hlt1_t, hw2, hlt2_t, hb4, hb5, hb6, n1, n2, n3, n4, n5, n6]
                        refine hold_intro ?_
                        exact ⟨⟨rfl, rfl, by first | rfl | simp only [SQ, hb1, hb3, hw1, hlt1_t, hw2, hlt2_t, hb4, hb5, hb6, n1, n2, n3, n4, n5, n6]⟩, rfl⟩
                      ·
                        simp only [SQ, ty37, ty3, iia_sim (f := eInt) ty37 rfl ty3 kx3 rfl, row_sim (f := eInt) kx3, len_sim ty31 rfl, iia_sim (f := eInt) ty37 rfl ty3 kx2 rfl, row_sim (f := eInt) kx2, hb1, hb3, hw1, hlt1_t, hw2, hlt2_t, hb4, hb5, hb6, n1, n2, n3, n4, n5, n6]
                        refine hold_intro ?_
                        exact ⟨⟨rfl, rfl, by first | rfl | simp only [SQ, hb1, hb3, hw1, hlt1_t, hw2, hlt2_t, hb4, hb5, hb6, n1, n2, n3, n4, n5, n6]⟩, rfl⟩
                · rintro a4 _ ⟨f4, rfl⟩
                  refine U_fi f4 ?_
                  rcases Bool.eq_false_or_eq_true (((((decide (x3 < 0)) || (decide ((r6.length : Int) ≤ x3))) || (decide (x2 < 0))) || (decide ((r6.length : Int) ≤ x2)))) with hb7 | hb7
                  ·
                    rw [if_pos hb7] at hr2
                    refine U_condT (by simp only [SQ, hb1, hb3, hw1, hlt1_t, hw2, hlt2_t, hb7, n1, n2, n3, n4, n5, n6]) ?_
                    refine U_seq ?_
                    refine U_fr 124 [] rfl rfl rfl ?_
                    refine U_reg ?_
                    simp only [SQ, hb1, hb3, hw1, hlt1_t, hw2, hlt2_t, hb7, n1, n2, n3, n4, n5, n6]
                    refine hold_intro ?_
                    refine U_ret ?_
                    replace hr2 := Option.some.inj hr2
                    subst hr2
                    replace hl4 : u3 = .r _ := hl4
                    subst hl4
                    replace hr1 := outE_r hr1
                    replace hr1 := Option.some.inj hr1
                    subst hr1
                    replace hl2 : u1 = .r _ := hl2
                    subst hl2
                    replace h := outE_r h
                    replace h := Option.some.inj h
                    subst h
                    refine ⟨.bool false, by simp only [ires, iress, Try.results5, SQ, List.toList_toArray, hb1, hb3, hw1, hlt1_t, hw2, hlt2_t, hb7, n1, n2, n3, n4, n5, n6], ?_⟩
                    exact .cl (closed_bool _)
                  ·
                    rw [if_neg (by rw [hb7]; decide)] at hr2
                    refine U_condF (by simp only [SQ, hb1, hb3, hw1, hlt1_t, hw2, hlt2_t, hb7, n1, n2, n3, n4, n5, n6]) ?_
                    refine U_skip ?_
                    refine U_seq ?_
                    obtain ⟨l1, kl1, hr2⟩ := bndO hr2
                    obtain ⟨r8, kr8, hr2⟩ := bndO hr2
                    refine U_drawQ hm [0, 0, 3, 0, 0, 24, 56, 127, 255] false 7 (by decide +kernel) (by decide) ?_
                    simp only [SQ, slice_sim0 (f := eInt) ty37 rfl ty3 (fun _ => rfl) kl1, ty37, ty3, iia_sim (f := eInt) ty37 rfl ty3 kx3 rfl, row_sim (f := eInt) kx3, hb1, hb3, hw1, hlt1_t, hw2, hlt2_t, hb7, n1, n2, n3, n4, n5, n6]
                    refine callP (w_dyehouseref12_In kr8) ?_
                    simp only [SQ, hb1, hb3, hw1, hlt1_t, hw2, hlt2_t, hb7, n1, n2, n3, n4, n5, n6]
                    refine hold_intro ?_
                    refine U_seq ?_
                    refine U_fr 124 [(4, .pim [egraph_Graph r4] 0 0), (5, .sim (r5.map eInt) false), (6, .sim (r6.map (eS eInt)) false), (7, .int .i64 i1), (8, .sim (r7.map eInt) false), (9, .bool some_1), (10, .int .i64 i2), (11, .bool r8)] rfl rfl rfl ?_
                    refine U_cut (fun a' H' => Fi a' 124 [(4, .pim [egraph_Graph r4] 0 0), (5, .sim (r5.map eInt) false), (6, .sim (r6.map (eS eInt)) false), (7, .int .i64 i1), (8, .sim (r7.map eInt) false), (9, .bool (some_1 || r8)), (10, .int .i64 i2), (11, .bool r8)] ∧ H6 = H') ?_ ?_
                    · refine U_reg ?_
                      rcases Bool.eq_false_or_eq_true (some_1) with hb8 | hb8
                      ·
                        simp only [SQ, hb1, hb3, hw1, hlt1_t, hw2, hlt2_t, hb7, hb8, n1, n2, n3, n4, n5, n6]
                        refine hold_intro ?_
                        exact ⟨⟨rfl, rfl, by first | rfl | simp only [SQ, hb1, hb3, hw1, hlt1_t, hw2, hlt2_t, hb7, hb8, n1, n2, n3, n4, n5, n6]⟩, rfl⟩
                      ·
                        simp only [SQ, hb1, hb3, hw1, hlt1_t, hw2, hlt2_t, hb7, hb8, n1, n2, n3, n4, n5, n6]
                        refine hold_intro ?_
                        exact ⟨⟨rfl, rfl, by first | rfl | simp only [SQ, hb1, hb3, hw1, hlt1_t, hw2, hlt2_t, hb7, hb8, n1, n2, n3, n4, n5, n6]⟩, rfl⟩
                    · rintro a5 _ ⟨f5, rfl⟩
                      refine U_fi f5 ?_
                      refine U_seq ?_
                      obtain ⟨b2, kb2, hr2⟩ := bndO hr2
                      refine U_cut (fun a' H' => Fi a' 124 [(4, .pim [egraph_Graph r4] 0 0), (5, .sim (r5.map eInt) false), (6, .sim (r6.map (eS eInt)) false), (7, .int .i64 i1), (8, .sim (r7.map eInt) false), (9, .bool (some_1 || r8)), (10, .int .i64 i2), (110, .bool b2)] ∧ H6 = H') ?_ ?_
                      · refine U_drawQ hm [0, 1, 3, 7, 7, 7, 55, 119, 255, 7, 7, 1543, 3591, 8191, 16383, 32767, 65535] false 13 (by decide +kernel) (by decide) ?_
                        rcases Bool.eq_false_or_eq_true (r8) with hb9 | hb9
                        ·
                          have hx3 : (!r8) = false := by simp only [SQ, hb9, Bool.true_beq, Bool.false_beq, Bool.true_bne, Bool.false_bne, Bool.not_true, Bool.not_false]
                          rw [if_neg (by rw [hx3]; decide)] at kb2
                          have hq3 := (Option.some.inj kb2).symm
                          simp only [SQ, hb1, hb3, hw1, hlt1_t, hw2, hlt2_t, hb7, hb9, Bool.true_beq, Bool.false_beq, Bool.true_bne, Bool.false_bne, Bool.not_true, Bool.not_false, hq3, n1, n2, n3, n4, n5, n6]
                          refine hold_intro ?_
                          exact ⟨⟨rfl, rfl, by first | rfl | simp only [SQ, hb1, hb3, hw1, hlt1_t, hw2, hlt2_t, hb7, hb9, Bool.true_beq, Bool.false_beq, Bool.true_bne, Bool.false_bne, Bool.not_true, Bool.not_false, hq3, n1, n2, n3, n4, n5, n6]⟩, rfl⟩
                        ·
                          have hx4 : (!r8) = true := by simp only [SQ, hb9, Bool.true_beq, Bool.false_beq, Bool.true_bne, Bool.false_bne, Bool.not_true, Bool.not_false]
                          rw [if_pos hx4] at kb2
                          obtain ⟨r9, kr9, kb2⟩ := bndO kb2
                          obtain ⟨x4, kx4, kb2⟩ := bndO kb2
                          have hq4 := (Option.some.inj kb2).symm
                          simp only [SQ, ty37, ty3, iia_sim (f := eInt) ty37 rfl ty3 kx2 rfl, row_sim (f := eInt) kx2, hb1, hb3, hw1, hlt1_t, hw2, hlt2_t, hb7, hb9, Bool.true_beq, Bool.false_beq, Bool.true_bne, Bool.false_bne, Bool.not_true, Bool.not_false, hq4, n1, n2, n3, n4, n5, n6]
                          refine callP (w_dyehouseref19_Reach kr9) ?_
                          simp only [SQ, ty37, ty3, iia_sim (f := eInt) ty37 rfl ty3 kx3 rfl, row_sim (f := eInt) kx3, ty42, ty4, iia_sim (f := eBool) ty42 rfl ty4 kx4 rfl, row_sim (f := eBool) kx4, hb1, hb3, hw1, hlt1_t, hw2, hlt2_t, hb7, hb9, Bool.true_beq, Bool.false_beq, Bool.true_bne, Bool.false_bne, Bool.not_true, Bool.not_false, hq4, n1, n2, n3, n4, n5, n6]
                          refine hold_intro ?_
                          exact ⟨⟨rfl, rfl, by first | rfl | simp only [SQ, hb1, hb3, hw1, hlt1_t, hw2, hlt2_t, hb7, hb9, Bool.true_beq, Bool.false_beq, Bool.true_bne, Bool.false_bne, Bool.not_true, Bool.not_false, hq4, n1, n2, n3, n4, n5, n6]⟩, rfl⟩
                      · rintro a6 _ ⟨f6, rfl⟩
                        refine U_fi f6 ?_
                        rcases Bool.eq_false_or_eq_true (b2) with hb10 | hb10
                        ·
                          rw [if_pos hb10] at hr2
                          refine U_condT (by simp only [SQ, hb1, hb3, hw1, hlt1_t, hw2, hlt2_t, hb7, hb10, n1, n2, n3, n4, n5, n6]) ?_
                          refine U_seq ?_
                          refine U_fr 124 [] rfl rfl rfl ?_
                          refine U_reg ?_
                          simp only [SQ, hb1, hb3, hw1, hlt1_t, hw2, hlt2_t, hb7, hb10, n1, n2, n3, n4, n5, n6]
                          refine hold_intro ?_
                          refine U_ret ?_
                          replace hr2 := Option.some.inj hr2
                          subst hr2
                          replace hl4 : u3 = .r _ := hl4
                          subst hl4
                          replace hr1 := outE_r hr1
                          replace hr1 := Option.some.inj hr1
                          subst hr1
                          replace hl2 : u1 = .r _ := hl2
                          subst hl2
                          replace h := outE_r h
                          replace h := Option.some.inj h
                          subst h
                          refine ⟨.bool false, by simp only [ires, iress, Try.results5, SQ, List.toList_toArray, hb1, hb3, hw1, hlt1_t, hw2, hlt2_t, hb7, hb10, n1, n2, n3, n4, n5, n6], ?_⟩
                          exact .cl (closed_bool _)
                        ·
                          rw [if_neg (by rw [hb10]; decide)] at hr2
                          refine U_condF (by simp only [SQ, hb1, hb3, hw1, hlt1_t, hw2, hlt2_t, hb7, hb10, n1, n2, n3, n4, n5, n6]) ?_
                          refine U_skip ?_
                          refine U_reg ?_
                          simp only [SQ, hb1, hb3, hw1, hlt1_t, hw2, hlt2_t, hb7, hb10, n1, n2, n3, n4, n5, n6]
                          refine hold_intro ?_
                          replace hr2 := Option.some.inj hr2
                          subst hr2
                          refine ⟨(i2 + 1, (some_1 || r8)), ?_, hl4, Int.le_add_one hl3, ⟨rfl, rfl, by first | rfl | simp only [SQ, hb1, hb3, hw1, hlt1_t, hw2, hlt2_t, hb7, hb10, n1, n2, n3, n4, n5, n6]⟩, s6⟩
                          show ((r7.length : Int) - (i2 + 1)).toNat < ((r7.length : Int) - i2).toNat; omega
              ·
                have hlt2_e := forE_end hf2 hlt2
                have hlt2_t : decide (i2 < (r7.length : Int)) = false := decide_eq_false hlt2
                refine U_seq (U_seq ?_)
                refine U_reg ?_
                simp only [SQ, len_sim ty37 rfl, hb1, hb3, hw1, hlt1_t, hlt2_t, n1, n2, n3, n4, n5, n6]
                refine hold_intro ?_
                refine U_condF (by simp only [SQ, hb1, hb3, hw1, hlt1_t, hlt2_t, n1, n2, n3, n4, n5, n6]) (U_exit rfl ?_)
                exact ⟨_, hlt2_e, ⟨rfl, rfl, by first | rfl | simp only [SQ, hb1, hb3, hw1, hlt1_t, hlt2_t, n1, n2, n3, n4, n5, n6]⟩, s6⟩
            ·
              rintro a7 H10 ⟨some_2, rfl, f7, s10⟩
              replace hr1 := outE_n hr1
              refine U_fi f7 ?_
              refine U_seq ?_
              obtain ⟨b3, kb3, hr1⟩ := bndO hr1
              refine U_cut (fun a' H' => Fi a' 124 [(4, .pim [egraph_Graph r4] 0 0), (5, .sim (r5.map eInt) false), (6, .sim (r6.map (eS eInt)) false), (7, .int .i64 i1), (122, .bool b3)] ∧ H10 = H') ?_ ?_
              · refine U_drawQ hm [0, 1, 3, 7, 7, 31, 7, 7, 199, 455, 1023, 2047] false 10 (by decide +kernel) (by decide) ?_
                rcases Bool.eq_false_or_eq_true (some_2) with hb11 | hb11
                ·
                  have hx5 : (!some_2) = false := by simp only [SQ, hb11, Bool.true_beq, Bool.false_beq, Bool.true_bne, Bool.false_bne, Bool.not_true, Bool.not_false]
                  rw [if_neg (by rw [hx5]; decide)] at kb3
                  obtain ⟨l2, kl2, kb3⟩ := bndO kb3
                  obtain ⟨r10, kr10, kb3⟩ := bndO kb3
                  have hq5 := (Option.some.inj kb3).symm
                  simp only [SQ, slice_sim0 (f := eInt) ty37 rfl ty3 (fun _ => rfl) kl2, ty37, ty3, iia_sim (f := eInt) ty37 rfl ty3 kx2 rfl, row_sim (f := eInt) kx2, hb1, hb3, hw1, hlt1_t, hb11, Bool.true_beq, Bool.false_beq, Bool.true_bne, Bool.false_bne, Bool.not_true, Bool.not_false, hq5, n1, n2, n3, n4, n5, n6]
                  refine callP (w_dyehouseref12_In kr10) ?_
                  simp only [SQ, hb1, hb3, hw1, hlt1_t, hb11, Bool.true_beq, Bool.false_beq, Bool.true_bne, Bool.false_bne, Bool.not_true, Bool.not_false, hq5, n1, n2, n3, n4, n5, n6]
                  refine hold_intro ?_
                  exact ⟨⟨rfl, rfl, by first | rfl | simp only [SQ, hb1, hb3, hw1, hlt1_t, hb11, Bool.true_beq, Bool.false_beq, Bool.true_bne, Bool.false_bne, Bool.not_true, Bool.not_false, hq5, n1, n2, n3, n4, n5, n6]⟩, rfl⟩
                ·
                  have hx6 : (!some_2) = true := by simp only [SQ, hb11, Bool.true_beq, Bool.false_beq, Bool.true_bne, Bool.false_bne, Bool.not_true, Bool.not_false]
                  rw [if_pos hx6] at kb3
                  have hq6 := (Option.some.inj kb3).symm
                  simp only [SQ, hb1, hb3, hw1, hlt1_t, hb11, Bool.true_beq, Bool.false_beq, Bool.true_bne, Bool.false_bne, Bool.not_true, Bool.not_false, hq6, n1, n2, n3, n4, n5, n6]
                  refine hold_intro ?_
                  exact ⟨⟨rfl, rfl, by first | rfl | simp only [SQ, hb1, hb3, hw1, hlt1_t, hb11, Bool.true_beq, Bool.false_beq, Bool.true_bne, Bool.false_bne, Bool.not_true, Bool.not_false, hq6, n1, n2, n3, n4, n5, n6]⟩, rfl⟩
              · rintro a8 _ ⟨f8, rfl⟩
                refine U_fi f8 ?_
                rcases Bool.eq_false_or_eq_true (b3) with hb12 | hb12
                ·
                  rw [if_pos hb12] at hr1
                  refine U_condT (by simp only [SQ, hb1, hb3, hw1, hlt1_t, hb12, n1, n2, n3, n4, n5, n6]) ?_
                  refine U_seq ?_
                  refine U_reg ?_
                  simp only [SQ, hb1, hb3, hw1, hlt1_t, hb12, n1, n2, n3, n4, n5, n6]
                  refine hold_intro ?_
                  refine U_ret ?_
                  replace hr1 := Option.some.inj hr1
                  subst hr1
                  replace hl2 : u1 = .r _ := hl2
                  subst hl2
                  replace h := outE_r h
                  replace h := Option.some.inj h
                  subst h
                  refine ⟨.bool false, by simp only [ires, iress, Try.results5, SQ, List.toList_toArray, hb1, hb3, hw1, hlt1_t, hb12, n1, n2, n3, n4, n5, n6], ?_⟩
                  exact .cl (closed_bool _)
                ·
                  rw [if_neg (by rw [hb12]; decide)] at hr1
                  refine U_condF (by simp only [SQ, hb1, hb3, hw1, hlt1_t, hb12, n1, n2, n3, n4, n5, n6]) ?_
                  refine U_skip ?_
                  refine U_reg ?_
                  simp only [SQ, hb1, hb3, hw1, hlt1_t, hb12, n1, n2, n3, n4, n5, n6]
                  refine hold_intro ?_
                  replace hr1 := Option.some.inj hr1
                  subst hr1
                  refine ⟨i1 + 1, ?_, hl2, Int.le_add_one hl1, ⟨rfl, rfl, by first | rfl | simp only [SQ, hb1, hb3, hw1, hlt1_t, hb12, n1, n2, n3, n4, n5, n6]⟩, s10⟩
                  show ((r5.length : Int) - (i1 + 1)).toNat < ((r5.length : Int) - i1).toNat; omega
          ·
            have hlt1_e := forE_end hf1 hlt1
            have hlt1_t : decide (i1 < (r5.length : Int)) = false := decide_eq_false hlt1
            refine U_seq (U_seq ?_)
            refine U_reg ?_
            simp only [SQ, len_sim ty37 rfl, hb1, hb3, hlt1_t, n1, n2, n3, n4, n5, n6]
            refine hold_intro ?_
            refine U_condF (by simp only [SQ, hb1, hb3, hlt1_t, n1, n2, n3, n4, n5, n6]) (U_exit rfl ?_)
            exact ⟨hlt1_e, ⟨rfl, rfl, by first | rfl | simp only [SQ, hb1, hb3, hlt1_t, n1, n2, n3, n4, n5, n6]⟩, s5⟩
        ·
          rintro a9 H12 ⟨rfl, f9, s12⟩
          replace h := outE_n h
          refine U_fi f9 ?_
          refine U_seq ?_
          obtain ⟨r11, kr11, h⟩ := bndO h
          refine U_reg ?_
          simp only [SQ, hb1, hb3, n1, n2, n3, n4, n5, n6]
          refine callP (w_dyehouselaw19_works kr11) ?_
          simp only [SQ, hb1, hb3, n1, n2, n3, n4, n5, n6]
          refine hold_intro ?_
          refine U_ret ?_
          replace h := Option.some.inj h
          subst h
          refine ⟨.bool r11, by simp only [ires, iress, Try.results5, SQ, List.toList_toArray, hb1, hb3, n1, n2, n3, n4, n5, n6], ?_⟩
          exact .cl (closed_bool _)

end Go.Proofs.Ytodafoajkajnkaa.IL
