/- The code of functions computes the pure ones. Printed by tr.py. -/
import Derived.Test.YtodafoajkajnkaaPX
import Derived.Test.YtodafoajkajnkaaPL2
import Derived.Test.YtodafoajkajnkaaPLS
import Derived.Test.YtodafoajkajnkaaSL
import Derived.Test.YtodafoajkajnkaaBp
set_option linter.unusedVariables false
set_option linter.unusedSimpArgs false
set_option maxRecDepth 100000
namespace Go.Proofs.Ytodafoajkajnkaa.IL
open Go Go.RowKit PL
open Nat (reduceLT reduceEqDiff reduceAdd reduceLeDiff reduceMul)

theorem w_dyehouseref12_Large {fuel : Nat} {f_1 : Fnc} {r0_ : Bool} (h : p_dyehouseref12_Large fuel f_1 = some r0_) : Pure1 Try.prog 13 [.agg (eFnc f_1)] (.bool r0_) := by
  refine Pure1_fz (all_cl (cl_agg (cl_eFnc _)) all_cl0) ?_
  refine U_call 0 Try.func13 rfl (by kernel_rfl) (by simp [Try.ntmps13]) ?_
  rw [Try.ntmps13]
  refine U_at (fun a' H' => a'.n = 101 ∧ a'.b = 0 ∧ a'.get 0 = .agg (eFnc f_1)) ⟨rfl, rfl, rfl⟩ ?_
  rintro a0 H0 ⟨hn0, hn1, e1⟩
  unfold p_dyehouseref12_Large at h
  have f1 := And.intro hn0 (And.intro hn1 (e1))
  refine U_seq ?_
  refine U_reg ?_
  simp only [SB, ty26, sFnc, f1, reduceLT, reduceEqDiff, reduceAdd, reduceLeDiff, reduceMul, Int.reduceEq]
  refine hold_intro ?_
  refine U_seq ?_
  refine U_reg ?_
  simp only [SB, ty26, ty9, sFnc, len_str ty9 rfl, ty22, len_sim ty22 rfl, ty23, len_sim ty23 rfl, f1, reduceLT, reduceEqDiff, reduceAdd, reduceLeDiff, reduceMul, Int.reduceEq]
  refine hold_intro ?_
  refine U_seq ?_
  refine U_seq ?_
  refine U_reg ?_
  simp only [SB, f1, reduceLT, reduceEqDiff, reduceAdd, reduceLeDiff, reduceMul, Int.reduceEq]
  refine hold_intro ?_
  refine U_at (fun a' H' => Kp [1, 2, 3, 4] 8 a' a0 ∧ KH [1] H' H0 ∧ a'.get 1 = .pb ⟨1, H0.next (1)⟩ 0 0 ∧ a'.get 3 = .int .i64 (IntKind.wrap .i64 ((IntKind.wrap .i64 ((f_1.name.size : Int) + (f_1.regs.length : Int))) + (f_1.params.length : Int))) ∧ a'.get 4 = .int .i64 0 ∧ H'.get ⟨1, H0.next (1)⟩ = some ⟨5, [eFnc f_1]⟩) ⟨by simp only [SB, f1, reduceLT, reduceEqDiff, reduceAdd, reduceLeDiff, reduceMul, Int.reduceEq], by simp only [SB, f1, reduceLT, reduceEqDiff, reduceAdd, reduceLeDiff, reduceMul, Int.reduceEq], by simp only [SB, f1, reduceLT, reduceEqDiff, reduceAdd, reduceLeDiff, reduceMul, Int.reduceEq], by simp only [SB, f1, reduceLT, reduceEqDiff, reduceAdd, reduceLeDiff, reduceMul, Int.reduceEq], by simp only [SB, f1, reduceLT, reduceEqDiff, reduceAdd, reduceLeDiff, reduceMul, Int.reduceEq], by simp only [SB, f1, reduceLT, reduceEqDiff, reduceAdd, reduceLeDiff, reduceMul, Int.reduceEq] <;> rfl⟩ ?_
  rintro a1 H1 ⟨kp1, kh1, e2, e3, e4, e5⟩
  have f2 := And.intro f1 (And.intro (KpF kp1) (And.intro (KHF kh1) (And.intro e2 (And.intro e3 (And.intro e4 (e5))))))
  obtain ⟨nv_3, he1, h⟩ := bndO h
  obtain ⟨hhi1, hlo1, he1⟩ := toN_facts he1
  refine U_cut (fun a' H' => Kp [3, 4, 5, 6, 7] 8 a' a1 ∧ KH [6] H' H1 ∧ a'.get 3 = .int .i64 nv_3) (U_block (U_loop (fun y a' H' => match y with | (i1, nv_2) => forN ((f_1.blocks.length : Int) - i1).toNat i1 (fun i s => p_dyehouseref12_Large_b1 fuel f_1 i s) nv_2 = some nv_3 ∧ 0 ≤ i1 ∧ Kp [3, 4, 5, 6, 7] 8 a' a1 ∧ KH [6] H' H1 ∧ a'.get 4 = .int .i64 i1 ∧ a'.get 3 = .int .i64 nv_2 : (Int × Int) → Fr → Heap → Prop) (fun y : Int × Int => ((f_1.blocks.length : Int) - y.1).toNat) (0, IntKind.wrap .i64 ((IntKind.wrap .i64 ((f_1.name.size : Int) + (f_1.regs.length : Int))) + (f_1.params.length : Int))) ?_ ?_)) ?_
  · exact ⟨he1, Int.le_refl _, by simp only [SB, f2, reduceLT, reduceEqDiff, reduceAdd, reduceLeDiff, reduceMul, Int.reduceEq], by simp only [SB, f2, reduceLT, reduceEqDiff, reduceAdd, reduceLeDiff, reduceMul, Int.reduceEq], by simp only [SB, f2, reduceLT, reduceEqDiff, reduceAdd, reduceLeDiff, reduceMul, Int.reduceEq], by simp only [SB, f2, reduceLT, reduceEqDiff, reduceAdd, reduceLeDiff, reduceMul, Int.reduceEq]⟩
  ·
    rintro ⟨i1, nv_2⟩ a2 H2 ⟨hf2, hl1, kp2, kh2, e8, e6⟩
    by_cases hlt1 : i1 < (f_1.blocks.length : Int)
    ·
      obtain ⟨u2, hr1, hl2⟩ := forN_step hf2 hlt1
      replace hr1 : p_dyehouseref12_Large_b1 fuel f_1 i1 nv_2 = some u2 := hr1
      unfold p_dyehouseref12_Large_b1 at hr1
      have hw1 := wrap_next hlt1 hhi1 hlo1 hl1
      have hlt1_t : decide (i1 < (f_1.blocks.length : Int)) = true := decide_eq_true hlt1
      have f3 := And.intro f2 (And.intro e6 (And.intro (KpF kp2) (And.intro (KHF kh2) (And.intro e8 (And.intro hw1 (hlt1_t))))))
      refine U_seq (U_seq ?_)
      refine U_reg ?_
      simp only [SB, ty26, ty24, sFnc, len_sim ty24 rfl, f3, reduceLT, reduceEqDiff, reduceAdd, reduceLeDiff, reduceMul, Int.reduceEq]
      refine hold_intro ?_
      refine U_condT (by simp only [SB, f3, ty26, ty24, sFnc, len_sim ty24 rfl, reduceLT, reduceEqDiff, reduceAdd, reduceLeDiff, reduceMul, Int.reduceEq]) (U_skip ?_)
      refine U_seq ?_
      refine U_block ?_
      refine U_seq ?_
      obtain ⟨x1, kx1, hr1⟩ := bndO hr1
      refine U_draw hm false 16 (by decide +kernel) (by decide) ?_
      simp only [SB, ty26, ty24, sFnc, ty63, iia_sim (f := eBl) ty24 rfl ty63 kx1 rfl, row_sim (f := eBl) kx1, sBl, ty9, len_str ty9 rfl, ty23, len_sim ty23 rfl, f3, reduceLT, reduceEqDiff, reduceAdd, reduceLeDiff, reduceMul, Int.reduceEq]
      refine hold_intro ?_
      refine U_seq ?_
      refine U_reg ?_
      simp only [SB, f3, reduceLT, reduceEqDiff, reduceAdd, reduceLeDiff, reduceMul, Int.reduceEq]
      refine hold_intro ?_
      refine U_at (fun a' H' => Kp [3, 5] 8 a' a2 ∧ H2 = H' ∧ a'.get 3 = .int .i64 (IntKind.wrap .i64 ((IntKind.wrap .i64 (nv_2 + (x1.label.size : Int))) + (x1.ins.length : Int))) ∧ a'.get 5 = .int .i64 0) ⟨by simp only [SB, f3, reduceLT, reduceEqDiff, reduceAdd, reduceLeDiff, reduceMul, Int.reduceEq], rfl, by simp only [SB, f3, reduceLT, reduceEqDiff, reduceAdd, reduceLeDiff, reduceMul, Int.reduceEq], by simp only [SB, f3, reduceLT, reduceEqDiff, reduceAdd, reduceLeDiff, reduceMul, Int.reduceEq]⟩ ?_
      rintro a3 H3 ⟨kp3, rfl, e9, e10⟩
      have f4 := And.intro f3 (And.intro (KpF kp3) (And.intro e9 (e10)))
      obtain ⟨nv_6, he2, hr1⟩ := bndO hr1
      obtain ⟨hhi2, hlo2, he2⟩ := toN_facts he2
      refine U_cut (fun a' H' => Kp [3, 5, 6, 7] 8 a' a3 ∧ KH [6] H' H2 ∧ a'.get 3 = .int .i64 nv_6) (U_block (U_loop (fun y a' H' => match y with | (i2, nv_5) => forN ((x1.code.length : Int) - i2).toNat i2 (fun i s => p_dyehouseref12_Large_b2 fuel x1 i s) nv_5 = some nv_6 ∧ 0 ≤ i2 ∧ Kp [3, 5, 6, 7] 8 a' a3 ∧ KH [6] H' H2 ∧ a'.get 5 = .int .i64 i2 ∧ a'.get 3 = .int .i64 nv_5 : (Int × Int) → Fr → Heap → Prop) (fun y : Int × Int => ((x1.code.length : Int) - y.1).toNat) (0, IntKind.wrap .i64 ((IntKind.wrap .i64 (nv_2 + (x1.label.size : Int))) + (x1.ins.length : Int))) ?_ ?_)) ?_
      · exact ⟨he2, Int.le_refl _, by simp only [SB, f4, reduceLT, reduceEqDiff, reduceAdd, reduceLeDiff, reduceMul, Int.reduceEq], by simp only [SB, f4, reduceLT, reduceEqDiff, reduceAdd, reduceLeDiff, reduceMul, Int.reduceEq], by simp only [SB, f4, reduceLT, reduceEqDiff, reduceAdd, reduceLeDiff, reduceMul, Int.reduceEq], by simp only [SB, f4, reduceLT, reduceEqDiff, reduceAdd, reduceLeDiff, reduceMul, Int.reduceEq]⟩
      ·
        rintro ⟨i2, nv_5⟩ a4 H4 ⟨hf4, hl3, kp4, kh3, e13, e11⟩
        by_cases hlt2 : i2 < (x1.code.length : Int)
        ·
          obtain ⟨u4, hr2, hl4⟩ := forN_step hf4 hlt2
          replace hr2 : p_dyehouseref12_Large_b2 fuel x1 i2 nv_5 = some u4 := hr2
          unfold p_dyehouseref12_Large_b2 at hr2
          have hw2 := wrap_next hlt2 hhi2 hlo2 hl3
          have hlt2_t : decide (i2 < (x1.code.length : Int)) = true := decide_eq_true hlt2
          have f5 := And.intro f4 (And.intro e11 (And.intro (KpF kp4) (And.intro (KHF kh3) (And.intro e13 (And.intro hw2 (hlt2_t))))))
          refine U_seq (U_seq ?_)
          refine U_reg ?_
          simp only [SB, ty26, ty24, sFnc, ty63, iia_sim (f := eBl) ty24 rfl ty63 kx1 rfl, row_sim (f := eBl) kx1, sBl, ty61, len_sim ty61 rfl, f5, reduceLT, reduceEqDiff, reduceAdd, reduceLeDiff, reduceMul, Int.reduceEq]
          refine hold_intro ?_
          refine U_condT (by simp only [SB, f5, ty26, ty24, sFnc, ty63, iia_sim (f := eBl) ty24 rfl ty63 kx1 rfl, row_sim (f := eBl) kx1, sBl, ty61, len_sim ty61 rfl, reduceLT, reduceEqDiff, reduceAdd, reduceLeDiff, reduceMul, Int.reduceEq]) (U_skip ?_)
          refine U_seq ?_
          refine U_block ?_
          refine U_seq ?_
          obtain ⟨x2, kx2, hr2⟩ := bndO hr2
          refine U_reg ?_
          simp only [SB, ty26, ty24, sFnc, ty63, iia_sim (f := eBl) ty24 rfl ty63 kx1 rfl, row_sim (f := eBl) kx1, sBl, ty61, ty66, iia_sim (f := eIns) ty61 rfl ty66 kx2 rfl, row_sim (f := eIns) kx2, sIns, splice_all', f5, reduceLT, reduceEqDiff, reduceAdd, reduceLeDiff, reduceMul, Int.reduceEq]
          refine hold_intro ?_
          refine U_seq ?_
          refine U_reg ?_
          simp only [SB, ty66, ty23, sIns, len_sim ty23 rfl, ty9, len_str ty9 rfl, ty37, len_sim ty37 rfl, f5, reduceLT, reduceEqDiff, reduceAdd, reduceLeDiff, reduceMul, Int.reduceEq]
          refine hold_intro ?_
          refine U_seq ?_
          refine U_reg ?_
          simp only [SB, f5, reduceLT, reduceEqDiff, reduceAdd, reduceLeDiff, reduceMul, Int.reduceEq]
          refine hold_intro ?_
          refine U_at (fun a' H' => Kp [3, 6, 7] 8 a' a4 ∧ KH [6] H' H4 ∧ a'.get 3 = .int .i64 (IntKind.wrap .i64 ((IntKind.wrap .i64 ((IntKind.wrap .i64 ((IntKind.wrap .i64 (nv_5 + 1)) + (x2.args.length : Int))) + (x2.name.size : Int))) + (x2.cases.length : Int))) ∧ a'.get 6 = .pb ⟨6, H4.next (6)⟩ 0 0 ∧ a'.get 7 = .int .i64 0 ∧ H'.get ⟨6, H4.next (6)⟩ = some ⟨10, [eIns x2]⟩) ⟨by simp only [SB, f5, reduceLT, reduceEqDiff, reduceAdd, reduceLeDiff, reduceMul, Int.reduceEq], by simp only [SB, f5, reduceLT, reduceEqDiff, reduceAdd, reduceLeDiff, reduceMul, Int.reduceEq], by simp only [SB, f5, reduceLT, reduceEqDiff, reduceAdd, reduceLeDiff, reduceMul, Int.reduceEq], by simp only [SB, f5, reduceLT, reduceEqDiff, reduceAdd, reduceLeDiff, reduceMul, Int.reduceEq], by simp only [SB, f5, reduceLT, reduceEqDiff, reduceAdd, reduceLeDiff, reduceMul, Int.reduceEq], by simp only [SB, f5, reduceLT, reduceEqDiff, reduceAdd, reduceLeDiff, reduceMul, Int.reduceEq] <;> rfl⟩ ?_
          rintro a5 H5 ⟨kp5, kh4, e14, e15, e16, e17⟩
          have f6 := And.intro f5 (And.intro (KpF kp5) (And.intro (KHF kh4) (And.intro e14 (And.intro e15 (And.intro e16 (e17))))))
          obtain ⟨nv_9, he3, hr2⟩ := bndO hr2
          obtain ⟨hhi3, hlo3, he3⟩ := toN_facts he3
          refine U_cut (fun a' H' => Kp [3, 7] 8 a' a5 ∧ KH [] H' H5 ∧ a'.get 3 = .int .i64 nv_9) (U_block (U_loop (fun y a' H' => match y with | (i3, nv_8) => forN ((x2.labels.length : Int) - i3).toNat i3 (fun i s => p_dyehouseref12_Large_b3 fuel x2 i s) nv_8 = some nv_9 ∧ 0 ≤ i3 ∧ Kp [3, 7] 8 a' a5 ∧ KH [] H' H5 ∧ a'.get 7 = .int .i64 i3 ∧ a'.get 3 = .int .i64 nv_8 : (Int × Int) → Fr → Heap → Prop) (fun y : Int × Int => ((x2.labels.length : Int) - y.1).toNat) (0, IntKind.wrap .i64 ((IntKind.wrap .i64 ((IntKind.wrap .i64 ((IntKind.wrap .i64 (nv_5 + 1)) + (x2.args.length : Int))) + (x2.name.size : Int))) + (x2.cases.length : Int))) ?_ ?_)) ?_
          · exact ⟨he3, Int.le_refl _, by simp only [SB, f6, reduceLT, reduceEqDiff, reduceAdd, reduceLeDiff, reduceMul, Int.reduceEq], by simp only [SB, f6, reduceLT, reduceEqDiff, reduceAdd, reduceLeDiff, reduceMul, Int.reduceEq], by simp only [SB, f6, reduceLT, reduceEqDiff, reduceAdd, reduceLeDiff, reduceMul, Int.reduceEq], by simp only [SB, f6, reduceLT, reduceEqDiff, reduceAdd, reduceLeDiff, reduceMul, Int.reduceEq]⟩
          ·
            rintro ⟨i3, nv_8⟩ a6 H6 ⟨hf6, hl5, kp6, kh5, e20, e18⟩
            by_cases hlt3 : i3 < (x2.labels.length : Int)
            ·
              obtain ⟨u6, hr3, hl6⟩ := forN_step hf6 hlt3
              replace hr3 : p_dyehouseref12_Large_b3 fuel x2 i3 nv_8 = some u6 := hr3
              unfold p_dyehouseref12_Large_b3 at hr3
              have hw3 := wrap_next hlt3 hhi3 hlo3 hl5
              have hlt3_t : decide (i3 < (x2.labels.length : Int)) = true := decide_eq_true hlt3
              have f7 := And.intro f6 (And.intro e18 (And.intro (KpF kp6) (And.intro (KHF kh5) (And.intro e20 (And.intro hw3 (hlt3_t))))))
              refine U_seq (U_seq ?_)
              refine U_reg ?_
              simp only [SB, ty66, ty64, sIns, len_sim ty64 rfl, f7, reduceLT, reduceEqDiff, reduceAdd, reduceLeDiff, reduceMul, Int.reduceEq]
              refine hold_intro ?_
              refine U_condT (by simp only [SB, f7, ty66, ty64, sIns, len_sim ty64 rfl, reduceLT, reduceEqDiff, reduceAdd, reduceLeDiff, reduceMul, Int.reduceEq]) (U_skip ?_)
              refine U_seq ?_
              refine U_block ?_
              obtain ⟨x3, kx3, hr3⟩ := bndO hr3
              refine U_reg ?_
              simp only [SB, ty66, ty64, sIns, ty9, iia_sim (f := eStr) ty64 rfl ty9 kx3 rfl, row_sim (f := eStr) kx3, len_str ty9 rfl, f7, reduceLT, reduceEqDiff, reduceAdd, reduceLeDiff, reduceMul, Int.reduceEq]
              refine hold_intro ?_
              refine U_reg ?_
              simp only [SB, f7, reduceLT, reduceEqDiff, reduceAdd, reduceLeDiff, reduceMul, Int.reduceEq]
              refine hold_intro ?_
              replace hr3 := Option.some.inj hr3
              subst hr3
              refine ⟨(i3 + 1, IntKind.wrap .i64 ((IntKind.wrap .i64 (nv_8 + 1)) + (x3.size : Int))), ?_, hl6, Int.le_add_one hl5, by simp only [SB, f7, reduceLT, reduceEqDiff, reduceAdd, reduceLeDiff, reduceMul, Int.reduceEq], by simp only [SB, f7, reduceLT, reduceEqDiff, reduceAdd, reduceLeDiff, reduceMul, Int.reduceEq], by simp only [SB, f7, reduceLT, reduceEqDiff, reduceAdd, reduceLeDiff, reduceMul, Int.reduceEq], by simp only [SB, f7, reduceLT, reduceEqDiff, reduceAdd, reduceLeDiff, reduceMul, Int.reduceEq]⟩
              show ((x2.labels.length : Int) - (i3 + 1)).toNat < ((x2.labels.length : Int) - i3).toNat; omega
            ·
              have hlt3_e := forN_end hf6 hlt3
              have hlt3_t : decide (i3 < (x2.labels.length : Int)) = false := decide_eq_false hlt3
              have f8 := And.intro f6 (And.intro e18 (And.intro (KpF kp6) (And.intro (KHF kh5) (And.intro e20 (hlt3_t)))))
              refine U_seq (U_seq ?_)
              refine U_reg ?_
              simp only [SB, ty66, ty64, sIns, len_sim ty64 rfl, f8, reduceLT, reduceEqDiff, reduceAdd, reduceLeDiff, reduceMul, Int.reduceEq]
              refine hold_intro ?_
              refine U_condF (by simp only [SB, f8, ty66, ty64, sIns, len_sim ty64 rfl, reduceLT, reduceEqDiff, reduceAdd, reduceLeDiff, reduceMul, Int.reduceEq]) (U_exit rfl ?_)
              cases hlt3_e
              exact ⟨by simp only [SB, f8, reduceLT, reduceEqDiff, reduceAdd, reduceLeDiff, reduceMul, Int.reduceEq], by simp only [SB, f8, reduceLT, reduceEqDiff, reduceAdd, reduceLeDiff, reduceMul, Int.reduceEq], by simp only [SB, f8, ty66, ty64, sIns, len_sim ty64 rfl, reduceLT, reduceEqDiff, reduceAdd, reduceLeDiff, reduceMul, Int.reduceEq]⟩
          ·
            rintro a7 H7 ⟨kp7, kh6, e21⟩
            have f9 := And.intro f6 (And.intro e21 (And.intro (KpF kp7) ((KHF kh6))))
            refine U_reg ?_
            simp only [SB, f9, reduceLT, reduceEqDiff, reduceAdd, reduceLeDiff, reduceMul, Int.reduceEq]
            refine hold_intro ?_
            replace hr2 := Option.some.inj hr2
            subst hr2
            refine ⟨(i2 + 1, nv_9), ?_, hl4, Int.le_add_one hl3, by simp only [SB, f9, reduceLT, reduceEqDiff, reduceAdd, reduceLeDiff, reduceMul, Int.reduceEq], by simp only [SB, f9, reduceLT, reduceEqDiff, reduceAdd, reduceLeDiff, reduceMul, Int.reduceEq], by simp only [SB, f9, reduceLT, reduceEqDiff, reduceAdd, reduceLeDiff, reduceMul, Int.reduceEq], by simp only [SB, f9, reduceLT, reduceEqDiff, reduceAdd, reduceLeDiff, reduceMul, Int.reduceEq]⟩
            show ((x1.code.length : Int) - (i2 + 1)).toNat < ((x1.code.length : Int) - i2).toNat; omega
        ·
          have hlt2_e := forN_end hf4 hlt2
          have hlt2_t : decide (i2 < (x1.code.length : Int)) = false := decide_eq_false hlt2
          have f10 := And.intro f4 (And.intro e11 (And.intro (KpF kp4) (And.intro (KHF kh3) (And.intro e13 (hlt2_t)))))
          refine U_seq (U_seq ?_)
          refine U_reg ?_
          simp only [SB, ty26, ty24, sFnc, ty63, iia_sim (f := eBl) ty24 rfl ty63 kx1 rfl, row_sim (f := eBl) kx1, sBl, ty61, len_sim ty61 rfl, f10, reduceLT, reduceEqDiff, reduceAdd, reduceLeDiff, reduceMul, Int.reduceEq]
          refine hold_intro ?_
          refine U_condF (by simp only [SB, f10, ty26, ty24, sFnc, ty63, iia_sim (f := eBl) ty24 rfl ty63 kx1 rfl, row_sim (f := eBl) kx1, sBl, ty61, len_sim ty61 rfl, reduceLT, reduceEqDiff, reduceAdd, reduceLeDiff, reduceMul, Int.reduceEq]) (U_exit rfl ?_)
          cases hlt2_e
          exact ⟨by simp only [SB, f10, reduceLT, reduceEqDiff, reduceAdd, reduceLeDiff, reduceMul, Int.reduceEq], by simp only [SB, f10, reduceLT, reduceEqDiff, reduceAdd, reduceLeDiff, reduceMul, Int.reduceEq], by simp only [SB, f10, ty26, ty24, sFnc, ty63, iia_sim (f := eBl) ty24 rfl ty63 kx1 rfl, row_sim (f := eBl) kx1, sBl, ty61, len_sim ty61 rfl, reduceLT, reduceEqDiff, reduceAdd, reduceLeDiff, reduceMul, Int.reduceEq]⟩
      ·
        rintro a8 H8 ⟨kp8, kh7, e22⟩
        have f11 := And.intro f4 (And.intro e22 (And.intro (KpF kp8) ((KHF kh7))))
        refine U_reg ?_
        simp only [SB, f11, reduceLT, reduceEqDiff, reduceAdd, reduceLeDiff, reduceMul, Int.reduceEq]
        refine hold_intro ?_
        replace hr1 := Option.some.inj hr1
        subst hr1
        refine ⟨(i1 + 1, nv_6), ?_, hl2, Int.le_add_one hl1, by simp only [SB, f11, reduceLT, reduceEqDiff, reduceAdd, reduceLeDiff, reduceMul, Int.reduceEq], by simp only [SB, f11, reduceLT, reduceEqDiff, reduceAdd, reduceLeDiff, reduceMul, Int.reduceEq], by simp only [SB, f11, reduceLT, reduceEqDiff, reduceAdd, reduceLeDiff, reduceMul, Int.reduceEq], by simp only [SB, f11, reduceLT, reduceEqDiff, reduceAdd, reduceLeDiff, reduceMul, Int.reduceEq]⟩
        show ((f_1.blocks.length : Int) - (i1 + 1)).toNat < ((f_1.blocks.length : Int) - i1).toNat; omega
    ·
      have hlt1_e := forN_end hf2 hlt1
      have hlt1_t : decide (i1 < (f_1.blocks.length : Int)) = false := decide_eq_false hlt1
      have f12 := And.intro f2 (And.intro e6 (And.intro (KpF kp2) (And.intro (KHF kh2) (And.intro e8 (hlt1_t)))))
      refine U_seq (U_seq ?_)
      refine U_reg ?_
      simp only [SB, ty26, ty24, sFnc, len_sim ty24 rfl, f12, reduceLT, reduceEqDiff, reduceAdd, reduceLeDiff, reduceMul, Int.reduceEq]
      refine hold_intro ?_
      refine U_condF (by simp only [SB, f12, ty26, ty24, sFnc, len_sim ty24 rfl, reduceLT, reduceEqDiff, reduceAdd, reduceLeDiff, reduceMul, Int.reduceEq]) (U_exit rfl ?_)
      cases hlt1_e
      exact ⟨by simp only [SB, f12, reduceLT, reduceEqDiff, reduceAdd, reduceLeDiff, reduceMul, Int.reduceEq], by simp only [SB, f12, reduceLT, reduceEqDiff, reduceAdd, reduceLeDiff, reduceMul, Int.reduceEq], by simp only [SB, f12, ty26, ty24, sFnc, len_sim ty24 rfl, reduceLT, reduceEqDiff, reduceAdd, reduceLeDiff, reduceMul, Int.reduceEq]⟩
  ·
    rintro a9 H9 ⟨kp9, kh8, e23⟩
    have f13 := And.intro f2 (And.intro e23 (And.intro (KpF kp9) ((KHF kh8))))
    refine U_seq ?_
    refine U_cut (fun a' H' => H9 = H' ∧ Kp [2] 8 a' a9 ∧ a'.get 2 = .bool ((decide (2000 < nv_3)) || (decide (80 < (f_1.blocks.length : Int))))) ?_ ?_
    · refine U_reg ?_
      rcases Bool.eq_false_or_eq_true (decide (2000 < nv_3)) with hb1 | hb1
      ·
        simp only [SB, hb1, f13, reduceLT, reduceEqDiff, reduceAdd, reduceLeDiff, reduceMul, Int.reduceEq]
        refine hold_intro ?_
        exact ⟨rfl, by simp only [SB, f13, reduceLT, reduceEqDiff, reduceAdd, reduceLeDiff, reduceMul, Int.reduceEq], by simp only [SB, f13, hb1, reduceLT, reduceEqDiff, reduceAdd, reduceLeDiff, reduceMul, Int.reduceEq]⟩
      ·
        simp only [SB, hb1, ty26, ty24, sFnc, len_sim ty24 rfl, f13, reduceLT, reduceEqDiff, reduceAdd, reduceLeDiff, reduceMul, Int.reduceEq]
        refine hold_intro ?_
        exact ⟨rfl, by simp only [SB, f13, reduceLT, reduceEqDiff, reduceAdd, reduceLeDiff, reduceMul, Int.reduceEq], by simp only [SB, f13, hb1, ty26, ty24, sFnc, len_sim ty24 rfl, reduceLT, reduceEqDiff, reduceAdd, reduceLeDiff, reduceMul, Int.reduceEq]⟩
    · rintro a10 H10 ⟨rfl, kp10, e24⟩
      have f14 := And.intro f13 (And.intro (KpF kp10) (e24))
      refine U_ret ?_
      replace h := Option.some.inj h
      subst h
      refine ⟨.bool ((decide (2000 < nv_3)) || (decide (80 < (f_1.blocks.length : Int)))), by simp only [ires, iress, Try.results13, SB, List.toList_toArray, f14, reduceLT, reduceEqDiff, reduceAdd, reduceLeDiff, reduceMul, Int.reduceEq], ?_⟩
      exact .cl (closed_bool _)

theorem w_dyehouselaw19_works_1 {fuel : Nat} {l_1 : List ByteArray} {r0_ : List Ins} (h : p_dyehouselaw19_works_1 fuel l_1 = some r0_) : Pure1 Try.prog 75 [.sim (l_1.map eStr) false] (.sim (r0_.map eIns) false) := by
  refine Pure1_fz (all_cl (cl_map cl_eStr _) all_cl0) ?_
  refine U_call 0 Try.func75 rfl (by kernel_rfl) (by simp [Try.ntmps75]) ?_
  rw [Try.ntmps75]
  refine U_at (fun a' H' => a'.n = 6 ∧ a'.b = 0 ∧ a'.get 0 = .sim (l_1.map eStr) false) ⟨rfl, rfl, rfl⟩ ?_
  rintro a0 H0 ⟨hn0, hn1, e1⟩
  unfold p_dyehouselaw19_works_1 at h
  have f1 := And.intro hn0 (And.intro hn1 (e1))
  refine U_seq ?_
  refine U_reg ?_
  simp only [SB, f1, reduceLT, reduceEqDiff, reduceAdd, reduceLeDiff, reduceMul, Int.reduceEq]
  refine hold_intro ?_
  refine U_seq ?_
  refine U_reg ?_
  simp only [SB, ty66, fk66, ty61, f1, reduceLT, reduceEqDiff, reduceAdd, reduceLeDiff, reduceMul, Int.reduceEq]
  refine hold_intro ?_
  refine U_rows (id := ⟨5, H0.next (5)⟩) (([(⟨21, (⟨0, 0, 0, 0⟩ : Opd), [], (⟨#[]⟩ : ByteArray), 0, l_1, []⟩ : Ins)] : List Ins).map eIns) (by simp only [SB, f1, ty66, fk66, ty61, reduceLT, reduceEqDiff, reduceAdd, reduceLeDiff, reduceMul, Int.reduceEq] <;> rfl) (SubRows_cons (SubRow_cons .refl (SubRow_cons .refl (SubRow_cons .refl (SubRow_cons .refl (SubRow_cons .refl (SubRow_cons sub_nils (SubRow_cons .refl (SubRow_cons .refl (SubRow_cons .refl (SubRow_cons sub_nils (SubRow_nil))))))))))) (SubRows_nil)) ?_
  refine U_at (fun a' H' => Kp [2] 3 a' a0 ∧ KH [5] H' H0 ∧ Own [5] H' (.sb ⟨5, H0.next (5)⟩ 0 1 true) 10 (([(⟨21, (⟨0, 0, 0, 0⟩ : Opd), [], (⟨#[]⟩ : ByteArray), 0, l_1, []⟩ : Ins)]).map eIns) ∧ a'.get 2 = .sb ⟨5, H0.next (5)⟩ 0 1 true) ⟨by simp only [SB, f1, reduceLT, reduceEqDiff, reduceAdd, reduceLeDiff, reduceMul, Int.reduceEq], by simp only [SB, f1, reduceLT, reduceEqDiff, reduceAdd, reduceLeDiff, reduceMul, Int.reduceEq], (Own.mk (id := ⟨5, H0.next (5)⟩) (by simp only [SB, reduceEqDiff]) (by simp only [SB]) (by simp only [SB, f1, reduceLT, reduceEqDiff, reduceAdd, reduceLeDiff, reduceMul, Int.reduceEq] <;> rfl)), by simp only [SB, f1, ty66, fk66, ty61, reduceLT, reduceEqDiff, reduceAdd, reduceLeDiff, reduceMul, Int.reduceEq]⟩ ?_
  rintro a1 H1 ⟨kp1, kh1, o2, e2⟩
  have f2 := And.intro f1 (And.intro (KpF kp1) (And.intro (KHF kh1) (e2)))
  refine U_ret ?_
  replace h := Option.some.inj h
  subst h
  refine ⟨.sb ⟨5, H0.next (5)⟩ 0 1 true, by simp only [ires, iress, Try.results75, SB, List.toList_toArray, ty66, fk66, ty61, f2, reduceLT, reduceEqDiff, reduceAdd, reduceLeDiff, reduceMul, Int.reduceEq], ?_⟩
  exact ((o2.same (by simp only [SB, f2, reduceLT, reduceEqDiff, reduceAdd, reduceLeDiff, reduceMul, Int.reduceEq]))).fz (cls cl_eIns _)

theorem w_op_Last {fuel : Nat} {op_1 : Int} {r0_ : Bool} (h : p_op_Last fuel op_1 = some r0_) : Pure1 Try.prog 127 [.int .i64 op_1] (.bool r0_) := by
  refine Pure1_fz (all_cl (closed_int _ _) all_cl0) ?_
  refine U_call 0 Try.func127 rfl (by kernel_rfl) (by simp [Try.ntmps127]) ?_
  rw [Try.ntmps127]
  refine U_at (fun a' H' => a'.n = 9 ∧ a'.b = 0 ∧ a'.get 0 = .int .i64 op_1) ⟨rfl, rfl, rfl⟩ ?_
  rintro a0 H0 ⟨hn0, hn1, e1⟩
  unfold p_op_Last at h
  have f1 := And.intro hn0 (And.intro hn1 (e1))
  refine U_seq ?_
  refine U_reg ?_
  simp only [SB, f1, reduceLT, reduceEqDiff, reduceAdd, reduceLeDiff, reduceMul, Int.reduceEq]
  refine hold_intro ?_
  refine U_seq ?_
  refine U_at (fun a' H' => Kp [2] 3 a' a0 ∧ H0 = H' ∧ a'.get 2 = .bool false) ⟨by simp only [SB, f1, reduceLT, reduceEqDiff, reduceAdd, reduceLeDiff, reduceMul, Int.reduceEq], rfl, by simp only [SB, f1, reduceLT, reduceEqDiff, reduceAdd, reduceLeDiff, reduceMul, Int.reduceEq]⟩ ?_
  rintro a1 H1 ⟨kp1, rfl, e2⟩
  have f2 := And.intro f1 (And.intro (KpF kp1) (e2))
  refine U_cut (fun a' H' => H0 = H' ∧ Kp [2] 3 a' a1 ∧ a'.get 2 = .bool ((decide (20 ≤ op_1)) && (decide (op_1 ≤ 23)))) ?_ ?_
  · refine U_reg ?_
    rcases Bool.eq_false_or_eq_true (decide (20 ≤ op_1)) with hb1 | hb1
    ·
      simp only [SB, hb1, f2, reduceLT, reduceEqDiff, reduceAdd, reduceLeDiff, reduceMul, Int.reduceEq]
      refine hold_intro ?_
      exact ⟨rfl, by simp only [SB, f2, reduceLT, reduceEqDiff, reduceAdd, reduceLeDiff, reduceMul, Int.reduceEq], by simp only [SB, f2, hb1, reduceLT, reduceEqDiff, reduceAdd, reduceLeDiff, reduceMul, Int.reduceEq]⟩
    ·
      simp only [SB, hb1, f2, reduceLT, reduceEqDiff, reduceAdd, reduceLeDiff, reduceMul, Int.reduceEq]
      refine hold_intro ?_
      exact ⟨rfl, by simp only [SB, f2, reduceLT, reduceEqDiff, reduceAdd, reduceLeDiff, reduceMul, Int.reduceEq], by simp only [SB, f2, hb1, reduceLT, reduceEqDiff, reduceAdd, reduceLeDiff, reduceMul, Int.reduceEq]⟩
  · rintro a2 H2 ⟨rfl, kp2, e3⟩
    have f3 := And.intro f2 (And.intro (KpF kp2) (e3))
    refine U_ret ?_
    replace h := Option.some.inj h
    subst h
    refine ⟨.bool ((decide (20 ≤ op_1)) && (decide (op_1 ≤ 23))), by simp only [ires, iress, Try.results127, SB, List.toList_toArray, f3, reduceLT, reduceEqDiff, reduceAdd, reduceLeDiff, reduceMul, Int.reduceEq], ?_⟩
    exact .cl (closed_bool _)

theorem w_graph_last {fuel : Nat} {b_1 : Bl} {r0_ : Ins} {r1_ : Bool} (h : p_graph_last fuel b_1 = some (r0_, r1_)) : Pure1 Try.prog 76 [.agg (eBl b_1)] (.tup [.agg (eIns r0_), .bool r1_]) := by
  refine Pure1_fz (all_cl (cl_agg (cl_eBl _)) all_cl0) ?_
  refine U_call 0 Try.func76 rfl (by kernel_rfl) (by simp [Try.ntmps76]) ?_
  rw [Try.ntmps76]
  refine U_at (fun a' H' => a'.n = 22 ∧ a'.b = 0 ∧ a'.get 0 = .agg (eBl b_1)) ⟨rfl, rfl, rfl⟩ ?_
  rintro a0 H0 ⟨hn0, hn1, e1⟩
  unfold p_graph_last at h
  have f1 := And.intro hn0 (And.intro hn1 (e1))
  refine U_seq ?_
  refine U_reg ?_
  simp only [SB, ty63, sBl, ty66, f1, reduceLT, reduceEqDiff, reduceAdd, reduceLeDiff, reduceMul, Int.reduceEq]
  refine hold_intro ?_
  refine U_seq ?_
  refine U_seq ?_
  refine U_reg ?_
  simp only [SB, ty63, ty61, sBl, len_sim ty61 rfl, f1, reduceLT, reduceEqDiff, reduceAdd, reduceLeDiff, reduceMul, Int.reduceEq]
  refine hold_intro ?_
  rcases Bool.eq_false_or_eq_true (decide ((b_1.code.length : Int) = 0)) with hb1 | hb1
  ·
    rw [if_pos hb1] at h
    refine U_condT (by simp only [SB, f1, hb1, ty63, ty61, sBl, len_sim ty61 rfl, reduceLT, reduceEqDiff, reduceAdd, reduceLeDiff, reduceMul, Int.reduceEq]) ?_
    refine U_seq ?_
    refine U_reg ?_
    simp only [SB, ty66, fk66, f1, hb1, reduceLT, reduceEqDiff, reduceAdd, reduceLeDiff, reduceMul, Int.reduceEq]
    refine hold_intro ?_
    refine U_ret ?_
    replace h := Option.some.inj h
    obtain ⟨q1, q2⟩ := Prod.mk.inj h
    clear h
    subst q1
    subst q2
    refine ⟨.tup [.agg [.int .i64 0, .int .i64 0, .int .i64 0, .int .i64 0, .int .i64 0, .nils, .str (⟨#[]⟩ : ByteArray), .int .i64 0, .nils, .nils], .bool false], by simp only [ires, iress, Try.results76, SB, List.toList_toArray, ty66, fk66, f1, hb1, reduceLT, reduceEqDiff, reduceAdd, reduceLeDiff, reduceMul, Int.reduceEq], ?_⟩
    exact Fz_tup (.cons (Fz_agg (.cons (.cl (closed_int _ _)) (.cons (.cl (closed_int _ _)) (.cons (.cl (closed_int _ _)) (.cons (.cl (closed_int _ _)) (.cons (.cl (closed_int _ _)) (.cons (.nils) (.cons (.cl (closed_str _)) (.cons (.cl (closed_int _ _)) (.cons (.nils) (.cons (.nils) (.nil)))))))))))) (.cons (.cl (closed_bool _)) (.nil)))
  ·
    rw [if_neg (by rw [hb1]; decide)] at h
    refine U_condF (by simp only [SB, f1, hb1, ty63, ty61, sBl, len_sim ty61 rfl, reduceLT, reduceEqDiff, reduceAdd, reduceLeDiff, reduceMul, Int.reduceEq]) ?_
    refine U_skip ?_
    refine U_seq ?_
    obtain ⟨x1, kx1, h⟩ := bndO h
    refine U_reg ?_
    simp only [SB, ty63, ty61, sBl, len_sim ty61 rfl, ty66, iia_sim (f := eIns) ty61 rfl ty66 kx1 rfl, row_sim (f := eIns) kx1, sIns, splice_all', f1, hb1, reduceLT, reduceEqDiff, reduceAdd, reduceLeDiff, reduceMul, Int.reduceEq]
    refine hold_intro ?_
    refine U_seq ?_
    obtain ⟨r1, kr1, h⟩ := bndO h
    refine U_draw hm false 4 (by decide +kernel) (by decide) ?_
    simp only [SB, ty66, sIns, ty3, f1, hb1, reduceLT, reduceEqDiff, reduceAdd, reduceLeDiff, reduceMul, Int.reduceEq]
    refine callP (w_op_Last kr1) ?_
    simp only [SB, ty66, sIns, ty3, splice_all', f1, hb1, reduceLT, reduceEqDiff, reduceAdd, reduceLeDiff, reduceMul, Int.reduceEq]
    refine hold_intro ?_
    refine U_ret ?_
    replace h := Option.some.inj h
    obtain ⟨q3, q4⟩ := Prod.mk.inj h
    clear h
    subst q3
    subst q4
    refine ⟨.tup [.agg (eIns x1), .bool r1], by simp only [ires, iress, Try.results76, SB, List.toList_toArray, ty66, sIns, ty3, splice_all', f1, hb1, reduceLT, reduceEqDiff, reduceAdd, reduceLeDiff, reduceMul, Int.reduceEq], ?_⟩
    exact Fz_tup (.cons (.cl (cl_agg (cl_eIns _))) (.cons (.cl (closed_bool _)) (.nil)))

theorem w_ir_Find_1 (b_ : Nat) {fuel : Nat} {b_1 : Bl} {p_1 : ByteArray} {r0_ : Bool} (h : p_ir_Find_1 fuel b_1 p_1 = some r0_) {k1q g1q : Nat} {H : Heap} (ha0 : k1q ∉ [b_ + 2]) (hb1q : H.get ⟨k1q, g1q⟩ = some ⟨1, [[.str p_1]]⟩) : CallW Try.prog 109 [.agg (eBl b_1), .pb ⟨k1q, g1q⟩ 0 0] H (fun rv H' => rv = (.bool r0_ : IV) ∧ KH [b_ + 2, k1q] H' H ∧ H'.get ⟨k1q, g1q⟩ = some ⟨1, [[.str p_1]]⟩) := by
  refine U_call b_ Try.func109 rfl (by kernel_rfl) (by simp [Try.ntmps109]) ?_
  rw [Try.ntmps109]
  refine U_at (fun a' H' => H = H' ∧ a'.n = 8 ∧ a'.b = b_ ∧ a'.get 0 = .agg (eBl b_1) ∧ a'.get 1 = .pb ⟨k1q, g1q⟩ 0 0) ⟨rfl, rfl, rfl, rfl, rfl⟩ ?_
  rintro a0 H0 ⟨rfl, hn0, hn1, e1, e2⟩
  unfold p_ir_Find_1 at h
  have f1 := And.intro hn0 (And.intro hn1 (And.intro e1 (And.intro e2 (And.intro hb1q ((apF ha0))))))
  refine U_seq ?_
  refine U_reg ?_
  simp only [SB, ty63, sBl, f1, reduceLT, reduceEqDiff, reduceAdd, reduceLeDiff, reduceMul, Int.reduceEq]
  refine hold_intro ?_
  refine U_seq ?_
  refine U_reg ?_
  simp only [SB, ty63, ty9, sBl, f1, reduceLT, reduceEqDiff, reduceAdd, reduceLeDiff, reduceMul, Int.reduceEq]
  refine hold_intro ?_
  refine U_ret ?_
  replace h := Option.some.inj h
  subst h
  refine ⟨.bool (decide (b_1.label = p_1)), by simp only [ires, iress, Try.results109, SB, List.toList_toArray, ty63, ty9, sBl, f1, reduceLT, reduceEqDiff, reduceAdd, reduceLeDiff, reduceMul, Int.reduceEq], ?_⟩
  exact ⟨rfl, by simp only [SB, f1, reduceLT, reduceEqDiff, reduceAdd, reduceLeDiff, reduceMul, Int.reduceEq], by simp only [SB, f1, ty63, ty9, sBl, reduceLT, reduceEqDiff, reduceAdd, reduceLeDiff, reduceMul, Int.reduceEq] <;> rfl⟩

theorem w_slices_IndexFunc_api_Block_api_Block_at_ir_Find_1 (b_ : Nat) {fuel : Nat} {s_1 : List Bl} {w1 : ByteArray} {r0_ : Int} (h : p_slices_IndexFunc_api_Block_api_Block_at_ir_Find_1 fuel s_1 w1 = some r0_) {k1q g1q : Nat} {H : Heap} (ha0 : k1q ∉ [b_ + 31]) (hb1q : H.get ⟨k1q, g1q⟩ = some ⟨1, [[.str w1]]⟩) : CallW Try.prog 108 [.sim (s_1.map eBl) false, .fn (.func 109) [] [.pb ⟨k1q, g1q⟩ 0 0]] H (fun rv H' => rv = (.int .i64 r0_ : IV) ∧ KH [b_ + 31, k1q] H' H ∧ H'.get ⟨k1q, g1q⟩ = some ⟨1, [[.str w1]]⟩) := by
  refine U_call b_ Try.func108 rfl (by kernel_rfl) (by simp [Try.ntmps108]) ?_
  rw [Try.ntmps108]
  refine U_at (fun a' H' => H = H' ∧ a'.n = 19 ∧ a'.b = b_ ∧ a'.get 0 = .sim (s_1.map eBl) false ∧ a'.get 1 = .fn (.func 109) [] [.pb ⟨k1q, g1q⟩ 0 0]) ⟨rfl, rfl, rfl, rfl, rfl⟩ ?_
  rintro a0 H0 ⟨rfl, hn0, hn1, e1, e2⟩
  unfold p_slices_IndexFunc_api_Block_api_Block_at_ir_Find_1 at h
  have f1 := And.intro hn0 (And.intro hn1 (And.intro e1 (And.intro e2 (And.intro hb1q ((apF ha0))))))
  refine U_seq ?_
  refine U_reg ?_
  simp only [SB, f1, reduceLT, reduceEqDiff, reduceAdd, reduceLeDiff, reduceMul, Int.reduceEq]
  refine hold_intro ?_
  refine U_seq ?_
  refine U_seq ?_
  refine U_reg ?_
  simp only [SB, len_sim ty24 rfl, f1, reduceLT, reduceEqDiff, reduceAdd, reduceLeDiff, reduceMul, Int.reduceEq]
  refine hold_intro ?_
  refine U_at (fun a' H' => Kp [4, 6, 7, 8] 9 a' a0 ∧ H = H' ∧ a'.get 7 = .int .i64 (s_1.length : Int) ∧ a'.get 8 = .int .i64 0) ⟨by simp only [SB, f1, reduceLT, reduceEqDiff, reduceAdd, reduceLeDiff, reduceMul, Int.reduceEq], rfl, by simp only [SB, f1, len_sim ty24 rfl, reduceLT, reduceEqDiff, reduceAdd, reduceLeDiff, reduceMul, Int.reduceEq], by simp only [SB, f1, len_sim ty24 rfl, reduceLT, reduceEqDiff, reduceAdd, reduceLeDiff, reduceMul, Int.reduceEq]⟩ ?_
  rintro a1 H1 ⟨kp1, rfl, e3, e4⟩
  have f2 := And.intro f1 (And.intro (KpF kp1) (And.intro e3 (e4)))
  obtain ⟨u1, he1, h⟩ := bndE h
  refine U_cut (fun a' H' => ∃ x_2 : Int, u1 = .n x_2 ∧ Kp [4, 5, 8] 9 a' a1 ∧ KH [b_ + 31, k1q] H' H ∧ a'.get 8 = .int .i64 x_2 ∧ H'.get ⟨k1q, g1q⟩ = some ⟨1, [[.str w1]]⟩) (U_block (U_loop (fun y a' H' => match y with | (m1, x_2) => loopE m1 (fun s => p_slices_IndexFunc_api_Block_api_Block_at_ir_Find_1_b1 fuel s_1 w1 s) x_2 = some u1 ∧ Kp [4, 5, 8] 9 a' a1 ∧ KH [b_ + 31, k1q] H' H ∧ a'.get 8 = .int .i64 x_2 ∧ H'.get ⟨k1q, g1q⟩ = some ⟨1, [[.str w1]]⟩ : (Nat × Int) → Fr → Heap → Prop) (fun y : Nat × Int => y.1) (fuel, 0) ?_ ?_)) ?_
  · exact ⟨he1, by simp only [SB, f2, reduceLT, reduceEqDiff, reduceAdd, reduceLeDiff, reduceMul, Int.reduceEq], by simp only [SB, f2, reduceLT, reduceEqDiff, reduceAdd, reduceLeDiff, reduceMul, Int.reduceEq], by simp only [SB, f2, len_sim ty24 rfl, reduceLT, reduceEqDiff, reduceAdd, reduceLeDiff, reduceMul, Int.reduceEq], by simp only [SB, f2, len_sim ty24 rfl, reduceLT, reduceEqDiff, reduceAdd, reduceLeDiff, reduceMul, Int.reduceEq] <;> rfl⟩
  ·
    rintro ⟨m1, x_2⟩ a2 H2 ⟨hf2, kp2, kh1, e5, e6⟩
    obtain ⟨m1', m1_lt, u2, hr1, hl2⟩ := loopE_step hf2
    replace hr1 : p_slices_IndexFunc_api_Block_api_Block_at_ir_Find_1_b1 fuel s_1 w1 x_2 = some u2 := hr1
    unfold p_slices_IndexFunc_api_Block_api_Block_at_ir_Find_1_b1 at hr1
    have f3 := And.intro f2 (And.intro e5 (And.intro e6 (And.intro (KpF kp2) ((KHF kh1)))))
    refine U_seq ?_
    refine U_reg ?_
    simp only [SB, f3, reduceLT, reduceEqDiff, reduceAdd, reduceLeDiff, reduceMul, Int.reduceEq]
    refine hold_intro ?_
    refine U_seq ?_
    rcases Bool.eq_false_or_eq_true (decide (x_2 < (s_1.length : Int))) with hb1 | hb1
    ·
      rw [if_pos hb1] at hr1
      refine U_condT (by simp only [SB, f3, hb1, reduceLT, reduceEqDiff, reduceAdd, reduceLeDiff, reduceMul, Int.reduceEq]) ?_
      refine U_skip ?_
      refine U_seq ?_
      refine U_block ?_
      refine U_seq ?_
      refine U_reg ?_
      simp only [SB, f3, hb1, reduceLT, reduceEqDiff, reduceAdd, reduceLeDiff, reduceMul, Int.reduceEq]
      refine hold_intro ?_
      refine U_seq ?_
      obtain ⟨x1, kx1, hr1⟩ := bndO hr1
      obtain ⟨r1, kr1, hr1⟩ := bndO hr1
      refine U_reg ?_
      simp only [SB, ty24, ty63, iia_sim (f := eBl) ty24 rfl ty63 kx1 rfl, row_sim (f := eBl) kx1, sBl, f3, hb1, reduceLT, reduceEqDiff, reduceAdd, reduceLeDiff, reduceMul, Int.reduceEq]
      refine callH (w_ir_Find_1 (b_ + 29) (k1q := k1q) (g1q := g1q) kr1 (by simp only [SB, f3, hb1, reduceLT, reduceEqDiff, reduceAdd, reduceLeDiff, reduceMul, Int.reduceEq]) (by simp only [SB, ty24, ty63, iia_sim (f := eBl) ty24 rfl ty63 kx1 rfl, row_sim (f := eBl) kx1, sBl, f3, hb1, reduceLT, reduceEqDiff, reduceAdd, reduceLeDiff, reduceMul, Int.reduceEq] <;> rfl)) ?_
      rintro rv1 H3 ⟨rfl, kh2, hb2⟩
      try simp only [Nat.add_assoc, reduceAdd] at kh2 hb2
      try simp only [Nat.add_assoc, reduceAdd]
      simp only [SB, ty24, ty63, iia_sim (f := eBl) ty24 rfl ty63 kx1 rfl, row_sim (f := eBl) kx1, sBl, f3, hb1, KHF kh2, hb2, reduceLT, reduceEqDiff, reduceAdd, reduceLeDiff, reduceMul, Int.reduceEq]
      refine hold_intro ?_
      rcases Bool.eq_false_or_eq_true (r1) with hb3 | hb3
      ·
        rw [if_pos hb3] at hr1
        refine U_condT (by simp only [SB, f3, hb1, KHF kh2, hb2, hb3, ty24, ty63, iia_sim (f := eBl) ty24 rfl ty63 kx1 rfl, row_sim (f := eBl) kx1, sBl, reduceLT, reduceEqDiff, reduceAdd, reduceLeDiff, reduceMul, Int.reduceEq]) ?_
        refine U_seq ?_
        refine U_reg ?_
        simp only [SB, f3, hb1, KHF kh2, hb2, hb3, reduceLT, reduceEqDiff, reduceAdd, reduceLeDiff, reduceMul, Int.reduceEq]
        refine hold_intro ?_
        refine U_ret ?_
        replace hr1 := Option.some.inj hr1
        subst hr1
        replace hl2 : u1 = .r _ := hl2
        subst hl2
        replace h := outE_r h
        replace h := Option.some.inj h
        subst h
        refine ⟨.int .i64 x_2, by simp only [ires, iress, Try.results108, SB, List.toList_toArray, f3, hb1, KHF kh2, hb2, hb3, reduceLT, reduceEqDiff, reduceAdd, reduceLeDiff, reduceMul, Int.reduceEq], ?_⟩
        exact ⟨rfl, by simp only [SB, f3, hb1, KHF kh2, hb2, hb3, reduceLT, reduceEqDiff, reduceAdd, reduceLeDiff, reduceMul, Int.reduceEq], by simp only [SB, f3, hb1, KHF kh2, hb2, hb3, reduceLT, reduceEqDiff, reduceAdd, reduceLeDiff, reduceMul, Int.reduceEq] <;> rfl⟩
      ·
        rw [if_neg (by rw [hb3]; decide)] at hr1
        refine U_condF (by simp only [SB, f3, hb1, KHF kh2, hb2, hb3, ty24, ty63, iia_sim (f := eBl) ty24 rfl ty63 kx1 rfl, row_sim (f := eBl) kx1, sBl, reduceLT, reduceEqDiff, reduceAdd, reduceLeDiff, reduceMul, Int.reduceEq]) ?_
        refine U_skip ?_
        refine U_reg ?_
        simp only [SB, f3, hb1, KHF kh2, hb2, hb3, reduceLT, reduceEqDiff, reduceAdd, reduceLeDiff, reduceMul, Int.reduceEq]
        refine hold_intro ?_
        replace hr1 := Option.some.inj hr1
        subst hr1
        exact ⟨(m1', IntKind.wrap .i64 (x_2 + 1)), m1_lt, hl2, by simp only [SB, f3, hb1, KHF kh2, hb2, hb3, reduceLT, reduceEqDiff, reduceAdd, reduceLeDiff, reduceMul, Int.reduceEq], by simp only [SB, f3, hb1, KHF kh2, hb2, hb3, reduceLT, reduceEqDiff, reduceAdd, reduceLeDiff, reduceMul, Int.reduceEq], by simp only [SB, f3, hb1, KHF kh2, hb2, hb3, reduceLT, reduceEqDiff, reduceAdd, reduceLeDiff, reduceMul, Int.reduceEq], by simp only [SB, f3, hb1, KHF kh2, hb2, hb3, reduceLT, reduceEqDiff, reduceAdd, reduceLeDiff, reduceMul, Int.reduceEq] <;> rfl⟩
    ·
      rw [if_neg (by rw [hb1]; decide)] at hr1
      refine U_condF (by simp only [SB, f3, hb1, reduceLT, reduceEqDiff, reduceAdd, reduceLeDiff, reduceMul, Int.reduceEq]) ?_
      refine U_exit rfl ?_
      replace hr1 := Option.some.inj hr1
      subst hr1
      exact ⟨_, hl2, by simp only [SB, f3, hb1, reduceLT, reduceEqDiff, reduceAdd, reduceLeDiff, reduceMul, Int.reduceEq], by simp only [SB, f3, hb1, reduceLT, reduceEqDiff, reduceAdd, reduceLeDiff, reduceMul, Int.reduceEq], by simp only [SB, f3, hb1, reduceLT, reduceEqDiff, reduceAdd, reduceLeDiff, reduceMul, Int.reduceEq], by simp only [SB, f3, hb1, reduceLT, reduceEqDiff, reduceAdd, reduceLeDiff, reduceMul, Int.reduceEq] <;> rfl⟩
  ·
    rintro a3 H4 ⟨x_3, rfl, kp3, kh3, e8, e9⟩
    replace h := outE_n h
    have f4 := And.intro f2 (And.intro e8 (And.intro e9 (And.intro (KpF kp3) ((KHF kh3)))))
    refine U_seq ?_
    refine U_reg ?_
    simp only [SB, f4, reduceLT, reduceEqDiff, reduceAdd, reduceLeDiff, reduceMul, Int.reduceEq]
    refine hold_intro ?_
    refine U_ret ?_
    replace h := Option.some.inj h
    subst h
    refine ⟨.int .i64 (-1), by simp only [ires, iress, Try.results108, SB, List.toList_toArray, f4, reduceLT, reduceEqDiff, reduceAdd, reduceLeDiff, reduceMul, Int.reduceEq], ?_⟩
    exact ⟨rfl, by simp only [SB, f4, reduceLT, reduceEqDiff, reduceAdd, reduceLeDiff, reduceMul, Int.reduceEq], by simp only [SB, f4, reduceLT, reduceEqDiff, reduceAdd, reduceLeDiff, reduceMul, Int.reduceEq] <;> rfl⟩

theorem w_ir_Find {fuel : Nat} {f_1 : Fnc} {label_1 : ByteArray} {r0_ : Int} (h : p_ir_Find fuel f_1 label_1 = some r0_) : Pure1 Try.prog 52 [.agg (eFnc f_1), .str label_1] (.int .i64 r0_) := by
  refine Pure1_fz (all_cl (cl_agg (cl_eFnc _)) (all_cl (closed_str _) all_cl0)) ?_
  refine U_call 0 Try.func52 rfl (by kernel_rfl) (by simp [Try.ntmps52]) ?_
  rw [Try.ntmps52]
  refine U_at (fun a' H' => a'.n = 9 ∧ a'.b = 0 ∧ a'.get 0 = .agg (eFnc f_1) ∧ a'.get 1 = .str label_1) ⟨rfl, rfl, rfl, rfl⟩ ?_
  rintro a0 H0 ⟨hn0, hn1, e1, e2⟩
  unfold p_ir_Find at h
  have f1 := And.intro hn0 (And.intro hn1 (And.intro e1 (e2)))
  refine U_seq ?_
  refine U_reg ?_
  simp only [SB, ty26, sFnc, ty9, f1, reduceLT, reduceEqDiff, reduceAdd, reduceLeDiff, reduceMul, Int.reduceEq]
  refine hold_intro ?_
  refine U_seq ?_
  obtain ⟨r1, kr1, h⟩ := bndO h
  refine U_reg ?_
  simp only [SB, ty26, ty24, sFnc, f1, reduceLT, reduceEqDiff, reduceAdd, reduceLeDiff, reduceMul, Int.reduceEq]
  refine callH (w_slices_IndexFunc_api_Block_api_Block_at_ir_Find_1 (19) (k1q := 3) (g1q := H0.next (3)) kr1 (by simp only [SB, f1, reduceLT, reduceEqDiff, reduceAdd, reduceLeDiff, reduceMul, Int.reduceEq]) (by simp only [SB, ty26, ty24, sFnc, f1, reduceLT, reduceEqDiff, reduceAdd, reduceLeDiff, reduceMul, Int.reduceEq] <;> rfl)) ?_
  rintro rv1 H1 ⟨rfl, kh1, hb1⟩
  try simp only [Nat.add_assoc, reduceAdd] at kh1 hb1
  try simp only [Nat.add_assoc, reduceAdd]
  simp only [SB, ty26, ty24, sFnc, f1, KHF kh1, hb1, reduceLT, reduceEqDiff, reduceAdd, reduceLeDiff, reduceMul, Int.reduceEq]
  refine hold_intro ?_
  refine U_ret ?_
  replace h := Option.some.inj h
  subst h
  refine ⟨.int .i64 r1, by simp only [ires, iress, Try.results52, SB, List.toList_toArray, ty26, ty24, sFnc, f1, KHF kh1, hb1, reduceLT, reduceEqDiff, reduceAdd, reduceLeDiff, reduceMul, Int.reduceEq], ?_⟩
  exact .cl (closed_int _ _)

theorem w_slices_Index_int_int {fuel : Nat} {s_1 : List Int} {v_1 : Int} {r0_ : Int} (h : p_slices_Index_int_int fuel s_1 v_1 = some r0_) : Pure1 Try.prog 128 [.sim (s_1.map eInt) false, .int .i64 v_1] (.int .i64 r0_) := by
  refine Pure1_fz (all_cl (cl_map cl_eInt _) (all_cl (closed_int _ _) all_cl0)) ?_
  refine U_call 0 Try.func128 rfl (by kernel_rfl) (by simp [Try.ntmps128]) ?_
  rw [Try.ntmps128]
  refine U_at (fun a' H' => a'.n = 19 ∧ a'.b = 0 ∧ a'.get 0 = .sim (s_1.map eInt) false ∧ a'.get 1 = .int .i64 v_1) ⟨rfl, rfl, rfl, rfl⟩ ?_
  rintro a0 H0 ⟨hn0, hn1, e1, e2⟩
  unfold p_slices_Index_int_int at h
  have f1 := And.intro hn0 (And.intro hn1 (And.intro e1 (e2)))
  refine U_seq ?_
  refine U_reg ?_
  simp only [SB, f1, reduceLT, reduceEqDiff, reduceAdd, reduceLeDiff, reduceMul, Int.reduceEq]
  refine hold_intro ?_
  refine U_seq ?_
  refine U_seq ?_
  refine U_reg ?_
  simp only [SB, len_sim ty37 rfl, f1, reduceLT, reduceEqDiff, reduceAdd, reduceLeDiff, reduceMul, Int.reduceEq]
  refine hold_intro ?_
  refine U_at (fun a' H' => Kp [4, 6, 7, 8] 9 a' a0 ∧ H0 = H' ∧ a'.get 7 = .int .i64 (s_1.length : Int) ∧ a'.get 8 = .int .i64 0) ⟨by simp only [SB, f1, reduceLT, reduceEqDiff, reduceAdd, reduceLeDiff, reduceMul, Int.reduceEq], rfl, by simp only [SB, f1, len_sim ty37 rfl, reduceLT, reduceEqDiff, reduceAdd, reduceLeDiff, reduceMul, Int.reduceEq], by simp only [SB, f1, len_sim ty37 rfl, reduceLT, reduceEqDiff, reduceAdd, reduceLeDiff, reduceMul, Int.reduceEq]⟩ ?_
  rintro a1 H1 ⟨kp1, rfl, e3, e4⟩
  have f2 := And.intro f1 (And.intro (KpF kp1) (And.intro e3 (e4)))
  obtain ⟨u1, he1, h⟩ := bndE h
  refine U_cut (fun a' H' => ∃ x_2 : Int, u1 = .n x_2 ∧ Kp [4, 5, 8] 9 a' a1 ∧ KH [] H' H0 ∧ a'.get 8 = .int .i64 x_2) (U_block (U_loop (fun y a' H' => match y with | (m1, x_2) => loopE m1 (fun s => p_slices_Index_int_int_b1 fuel s_1 v_1 s) x_2 = some u1 ∧ Kp [4, 5, 8] 9 a' a1 ∧ KH [] H' H0 ∧ a'.get 8 = .int .i64 x_2 : (Nat × Int) → Fr → Heap → Prop) (fun y : Nat × Int => y.1) (fuel, 0) ?_ ?_)) ?_
  · exact ⟨he1, by simp only [SB, f2, reduceLT, reduceEqDiff, reduceAdd, reduceLeDiff, reduceMul, Int.reduceEq], by simp only [SB, f2, reduceLT, reduceEqDiff, reduceAdd, reduceLeDiff, reduceMul, Int.reduceEq], by simp only [SB, f2, len_sim ty37 rfl, reduceLT, reduceEqDiff, reduceAdd, reduceLeDiff, reduceMul, Int.reduceEq]⟩
  ·
    rintro ⟨m1, x_2⟩ a2 H2 ⟨hf2, kp2, kh1, e5⟩
    obtain ⟨m1', m1_lt, u2, hr1, hl2⟩ := loopE_step hf2
    replace hr1 : p_slices_Index_int_int_b1 fuel s_1 v_1 x_2 = some u2 := hr1
    unfold p_slices_Index_int_int_b1 at hr1
    have f3 := And.intro f2 (And.intro e5 (And.intro (KpF kp2) ((KHF kh1))))
    refine U_seq ?_
    refine U_reg ?_
    simp only [SB, f3, reduceLT, reduceEqDiff, reduceAdd, reduceLeDiff, reduceMul, Int.reduceEq]
    refine hold_intro ?_
    refine U_seq ?_
    rcases Bool.eq_false_or_eq_true (decide (x_2 < (s_1.length : Int))) with hb1 | hb1
    ·
      rw [if_pos hb1] at hr1
      refine U_condT (by simp only [SB, f3, hb1, reduceLT, reduceEqDiff, reduceAdd, reduceLeDiff, reduceMul, Int.reduceEq]) ?_
      refine U_skip ?_
      refine U_seq ?_
      refine U_block ?_
      refine U_seq ?_
      refine U_reg ?_
      simp only [SB, f3, hb1, reduceLT, reduceEqDiff, reduceAdd, reduceLeDiff, reduceMul, Int.reduceEq]
      refine hold_intro ?_
      refine U_seq ?_
      obtain ⟨x1, kx1, hr1⟩ := bndO hr1
      refine U_reg ?_
      simp only [SB, ty37, ty3, iia_sim (f := eInt) ty37 rfl ty3 kx1 rfl, row_sim (f := eInt) kx1, f3, hb1, reduceLT, reduceEqDiff, reduceAdd, reduceLeDiff, reduceMul, Int.reduceEq]
      refine hold_intro ?_
      rcases Bool.eq_false_or_eq_true (decide (v_1 = x1)) with hb2 | hb2
      ·
        rw [if_pos hb2] at hr1
        refine U_condT (by simp only [SB, f3, hb1, hb2, ty37, ty3, iia_sim (f := eInt) ty37 rfl ty3 kx1 rfl, row_sim (f := eInt) kx1, reduceLT, reduceEqDiff, reduceAdd, reduceLeDiff, reduceMul, Int.reduceEq]) ?_
        refine U_seq ?_
        refine U_reg ?_
        simp only [SB, f3, hb1, hb2, reduceLT, reduceEqDiff, reduceAdd, reduceLeDiff, reduceMul, Int.reduceEq]
        refine hold_intro ?_
        refine U_ret ?_
        replace hr1 := Option.some.inj hr1
        subst hr1
        replace hl2 : u1 = .r _ := hl2
        subst hl2
        replace h := outE_r h
        replace h := Option.some.inj h
        subst h
        refine ⟨.int .i64 x_2, by simp only [ires, iress, Try.results128, SB, List.toList_toArray, f3, hb1, hb2, reduceLT, reduceEqDiff, reduceAdd, reduceLeDiff, reduceMul, Int.reduceEq], ?_⟩
        exact .cl (closed_int _ _)
      ·
        rw [if_neg (by rw [hb2]; decide)] at hr1
        refine U_condF (by simp only [SB, f3, hb1, hb2, ty37, ty3, iia_sim (f := eInt) ty37 rfl ty3 kx1 rfl, row_sim (f := eInt) kx1, reduceLT, reduceEqDiff, reduceAdd, reduceLeDiff, reduceMul, Int.reduceEq]) ?_
        refine U_skip ?_
        refine U_reg ?_
        simp only [SB, f3, hb1, hb2, reduceLT, reduceEqDiff, reduceAdd, reduceLeDiff, reduceMul, Int.reduceEq]
        refine hold_intro ?_
        replace hr1 := Option.some.inj hr1
        subst hr1
        exact ⟨(m1', IntKind.wrap .i64 (x_2 + 1)), m1_lt, hl2, by simp only [SB, f3, hb1, hb2, reduceLT, reduceEqDiff, reduceAdd, reduceLeDiff, reduceMul, Int.reduceEq], by simp only [SB, f3, hb1, hb2, reduceLT, reduceEqDiff, reduceAdd, reduceLeDiff, reduceMul, Int.reduceEq], by simp only [SB, f3, hb1, hb2, reduceLT, reduceEqDiff, reduceAdd, reduceLeDiff, reduceMul, Int.reduceEq]⟩
    ·
      rw [if_neg (by rw [hb1]; decide)] at hr1
      refine U_condF (by simp only [SB, f3, hb1, reduceLT, reduceEqDiff, reduceAdd, reduceLeDiff, reduceMul, Int.reduceEq]) ?_
      refine U_exit rfl ?_
      replace hr1 := Option.some.inj hr1
      subst hr1
      exact ⟨_, hl2, by simp only [SB, f3, hb1, reduceLT, reduceEqDiff, reduceAdd, reduceLeDiff, reduceMul, Int.reduceEq], by simp only [SB, f3, hb1, reduceLT, reduceEqDiff, reduceAdd, reduceLeDiff, reduceMul, Int.reduceEq], by simp only [SB, f3, hb1, reduceLT, reduceEqDiff, reduceAdd, reduceLeDiff, reduceMul, Int.reduceEq]⟩
  ·
    rintro a3 H3 ⟨x_3, rfl, kp3, kh2, e7⟩
    replace h := outE_n h
    have f4 := And.intro f2 (And.intro e7 (And.intro (KpF kp3) ((KHF kh2))))
    refine U_seq ?_
    refine U_reg ?_
    simp only [SB, f4, reduceLT, reduceEqDiff, reduceAdd, reduceLeDiff, reduceMul, Int.reduceEq]
    refine hold_intro ?_
    refine U_ret ?_
    replace h := Option.some.inj h
    subst h
    refine ⟨.int .i64 (-1), by simp only [ires, iress, Try.results128, SB, List.toList_toArray, f4, reduceLT, reduceEqDiff, reduceAdd, reduceLeDiff, reduceMul, Int.reduceEq], ?_⟩
    exact .cl (closed_int _ _)

theorem w_slices_Contains_int_int {fuel : Nat} {s_1 : List Int} {v_1 : Int} {r0_ : Bool} (h : p_slices_Contains_int_int fuel s_1 v_1 = some r0_) : Pure1 Try.prog 77 [.sim (s_1.map eInt) false, .int .i64 v_1] (.bool r0_) := by
  refine Pure1_fz (all_cl (cl_map cl_eInt _) (all_cl (closed_int _ _) all_cl0)) ?_
  refine U_call 0 Try.func77 rfl (by kernel_rfl) (by simp [Try.ntmps77]) ?_
  rw [Try.ntmps77]
  refine U_at (fun a' H' => a'.n = 9 ∧ a'.b = 0 ∧ a'.get 0 = .sim (s_1.map eInt) false ∧ a'.get 1 = .int .i64 v_1) ⟨rfl, rfl, rfl, rfl⟩ ?_
  rintro a0 H0 ⟨hn0, hn1, e1, e2⟩
  unfold p_slices_Contains_int_int at h
  have f1 := And.intro hn0 (And.intro hn1 (And.intro e1 (e2)))
  refine U_seq ?_
  refine U_reg ?_
  simp only [SB, f1, reduceLT, reduceEqDiff, reduceAdd, reduceLeDiff, reduceMul, Int.reduceEq]
  refine hold_intro ?_
  refine U_seq ?_
  obtain ⟨r1, kr1, h⟩ := bndO h
  refine U_reg ?_
  simp only [SB, f1, reduceLT, reduceEqDiff, reduceAdd, reduceLeDiff, reduceMul, Int.reduceEq]
  refine callP (w_slices_Index_int_int kr1) ?_
  simp only [SB, f1, reduceLT, reduceEqDiff, reduceAdd, reduceLeDiff, reduceMul, Int.reduceEq]
  refine hold_intro ?_
  refine U_ret ?_
  replace h := Option.some.inj h
  subst h
  refine ⟨.bool (decide (0 ≤ r1)), by simp only [ires, iress, Try.results77, SB, List.toList_toArray, f1, reduceLT, reduceEqDiff, reduceAdd, reduceLeDiff, reduceMul, Int.reduceEq], ?_⟩
  exact .cl (closed_bool _)

theorem w_graph_New {fuel : Nat} {f_1 : Fnc} {r0_ : graph_Graph} (h : p_graph_New fuel f_1 = some r0_) : Pure1 Try.prog 15 [.agg (eFnc f_1)] (.pim [egraph_Graph r0_] 0 0) := by
  refine Pure1_fz (all_cl (cl_agg (cl_eFnc _)) all_cl0) ?_
  refine U_call 0 Try.func15 rfl (by kernel_rfl) (by simp [Try.ntmps15]) ?_
  rw [Try.ntmps15]
  refine U_at (fun a' H' => a'.n = 95 ∧ a'.b = 0 ∧ a'.get 0 = .agg (eFnc f_1)) ⟨rfl, rfl, rfl⟩ ?_
  rintro a0 H0 ⟨hn0, hn1, e1⟩
  unfold p_graph_New at h
  have f1 := And.intro hn0 (And.intro hn1 (e1))
  refine U_seq ?_
  refine U_reg ?_
  simp only [SB, ty26, sFnc, f1, reduceLT, reduceEqDiff, reduceAdd, reduceLeDiff, reduceMul, Int.reduceEq]
  refine hold_intro ?_
  refine U_seq ?_
  obtain ⟨l1, kl1, h⟩ := bndO h
  obtain ⟨l2, kl2, h⟩ := bndO h
  refine U_draw hm false 8 (by decide +kernel) (by decide) ?_
  simp only [SB, ty26, ty24, sFnc, len_sim ty24 rfl, ty31, ty37, imk_two (d := 14) (α := Int) ty31 rfl ty37 rfl rfl (by decide) kl1, imk_two (d := 18) (α := Int) ty31 rfl ty37 rfl rfl (by decide) kl2, ty108, fk108, f1, reduceLT, reduceEqDiff, reduceAdd, reduceLeDiff, reduceMul, Int.reduceEq]
  refine hold_intro ?_
  refine U_seq ?_
  refine U_seq ?_
  refine U_reg ?_
  simp only [SB, ty26, ty24, sFnc, len_sim ty24 rfl, f1, reduceLT, reduceEqDiff, reduceAdd, reduceLeDiff, reduceMul, Int.reduceEq]
  refine hold_intro ?_
  refine U_at (fun a' H' => Kp [1, 2, 3, 11, 12, 13, 14, 15, 16, 17, 18, 19, 20, 21, 22, 23, 24] 40 a' a0 ∧ KH [1, 14, 18, 20] H' H0 ∧ a'.get 1 = .pb ⟨1, H0.next (1)⟩ 0 0 ∧ a'.get 22 = .sim (f_1.blocks.map eBl) false ∧ a'.get 23 = .int .i64 (f_1.blocks.length : Int) ∧ a'.get 24 = .int .i64 0 ∧ a'.get 3 = .pb ⟨20, H0.next (20)⟩ 0 0 ∧ H'.get ⟨1, H0.next (1)⟩ = some ⟨5, [eFnc f_1]⟩ ∧ Own2 [14] H' (.sb ⟨14, H0.next (14)⟩ 0 l1.length true) 1 eInt l1 ∧ Own2 [18] H' (.sb ⟨18, H0.next (18)⟩ 0 l2.length true) 1 eInt l2 ∧ H'.get ⟨20, H0.next (20)⟩ = some ⟨2, [[.sb ⟨14, H0.next (14)⟩ 0 l1.length true, .sb ⟨18, H0.next (18)⟩ 0 l2.length true]]⟩) ⟨by simp only [SB, f1, reduceLT, reduceEqDiff, reduceAdd, reduceLeDiff, reduceMul, Int.reduceEq], by simp only [SB, f1, reduceLT, reduceEqDiff, reduceAdd, reduceLeDiff, reduceMul, Int.reduceEq], by simp only [SB, f1, ty26, ty24, sFnc, len_sim ty24 rfl, reduceLT, reduceEqDiff, reduceAdd, reduceLeDiff, reduceMul, Int.reduceEq], by simp only [SB, f1, ty26, ty24, sFnc, len_sim ty24 rfl, reduceLT, reduceEqDiff, reduceAdd, reduceLeDiff, reduceMul, Int.reduceEq], by simp only [SB, f1, ty26, ty24, sFnc, len_sim ty24 rfl, reduceLT, reduceEqDiff, reduceAdd, reduceLeDiff, reduceMul, Int.reduceEq], by simp only [SB, f1, ty26, ty24, sFnc, len_sim ty24 rfl, reduceLT, reduceEqDiff, reduceAdd, reduceLeDiff, reduceMul, Int.reduceEq], by simp only [SB, f1, ty26, ty24, sFnc, len_sim ty24 rfl, reduceLT, reduceEqDiff, reduceAdd, reduceLeDiff, reduceMul, Int.reduceEq], by simp only [SB, f1, ty26, ty24, sFnc, len_sim ty24 rfl, reduceLT, reduceEqDiff, reduceAdd, reduceLeDiff, reduceMul, Int.reduceEq] <;> rfl, (Own2.mk2 (id := ⟨14, H0.next (14)⟩) kl1 (by simp only [SB, reduceEqDiff]) (by simp only [SB, f1, reduceLT, reduceEqDiff, reduceAdd, reduceLeDiff, reduceMul, Int.reduceEq] <;> rfl)), (Own2.mk2 (id := ⟨18, H0.next (18)⟩) kl2 (by simp only [SB, reduceEqDiff]) (by simp only [SB, f1, reduceLT, reduceEqDiff, reduceAdd, reduceLeDiff, reduceMul, Int.reduceEq] <;> rfl)), by simp only [SB, f1, ty26, ty24, sFnc, len_sim ty24 rfl, reduceLT, reduceEqDiff, reduceAdd, reduceLeDiff, reduceMul, Int.reduceEq] <;> rfl⟩ ?_
  rintro a1 H1 ⟨kp1, kh1, e2, e3, e4, e5, e6, e7, o1, o2, e8⟩
  have f2 := And.intro f1 (And.intro (KpF kp1) (And.intro (KHF kh1) (And.intro e2 (And.intro e3 (And.intro e4 (And.intro e5 (And.intro e6 (And.intro e7 (e8)))))))))
  obtain ⟨u1, he1, h⟩ := bndE h
  refine U_cut (fun a' H' => ∃ c3 : List (List Int), ∃ c4 : List (List Int), ∃ x_2 : Int, u1 = .n (c3, c4, x_2) ∧ Kp [4, 5, 6, 7, 9, 10, 24, 25, 26, 27, 28, 29, 30, 31, 32, 33, 34, 35, 36, 37, 38, 39] 40 a' a1 ∧ KH [14, 18, 20, 5, 6, 73, 74, 89, 90] H' H1 ∧ Own2 [14, 74] H' (.sb ⟨14, H0.next (14)⟩ 0 l1.length true) 1 eInt c3 ∧ Own2 [18, 90] H' (.sb ⟨18, H0.next (18)⟩ 0 l2.length true) 1 eInt c4 ∧ a'.get 24 = .int .i64 x_2 ∧ H'.get ⟨20, H0.next (20)⟩ = some ⟨2, [[.sb ⟨14, H0.next (14)⟩ 0 l1.length true, .sb ⟨18, H0.next (18)⟩ 0 l2.length true]]⟩) (U_block (U_loop (fun y a' H' => match y with | (m1, c3, c4, x_2) => loopE m1 (fun s => p_graph_New_b1 fuel f_1 s.1 s.2.1 s.2.2) (c3, c4, x_2) = some u1 ∧ Kp [4, 5, 6, 7, 9, 10, 24, 25, 26, 27, 28, 29, 30, 31, 32, 33, 34, 35, 36, 37, 38, 39] 40 a' a1 ∧ KH [14, 18, 20, 5, 6, 73, 74, 89, 90] H' H1 ∧ Own2 [14, 74] H' (.sb ⟨14, H0.next (14)⟩ 0 l1.length true) 1 eInt c3 ∧ Own2 [18, 90] H' (.sb ⟨18, H0.next (18)⟩ 0 l2.length true) 1 eInt c4 ∧ a'.get 24 = .int .i64 x_2 ∧ H'.get ⟨20, H0.next (20)⟩ = some ⟨2, [[.sb ⟨14, H0.next (14)⟩ 0 l1.length true, .sb ⟨18, H0.next (18)⟩ 0 l2.length true]]⟩ : (Nat × (List (List Int)) × (List (List Int)) × Int) → Fr → Heap → Prop) (fun y : Nat × (List (List Int)) × (List (List Int)) × Int => y.1) (fuel, l1, l2, 0) ?_ ?_)) ?_
  · exact ⟨he1, by simp only [SB, f2, reduceLT, reduceEqDiff, reduceAdd, reduceLeDiff, reduceMul, Int.reduceEq], by simp only [SB, f2, reduceLT, reduceEqDiff, reduceAdd, reduceLeDiff, reduceMul, Int.reduceEq], (Own2.sub (o1.same (by simp only [SB, f2, reduceLT, reduceEqDiff, reduceAdd, reduceLeDiff, reduceMul, Int.reduceEq])) (by simp only [SB, reduceEqDiff])), (Own2.sub (o2.same (by simp only [SB, f2, reduceLT, reduceEqDiff, reduceAdd, reduceLeDiff, reduceMul, Int.reduceEq])) (by simp only [SB, reduceEqDiff])), by simp only [SB, f2, ty26, ty24, sFnc, len_sim ty24 rfl, reduceLT, reduceEqDiff, reduceAdd, reduceLeDiff, reduceMul, Int.reduceEq], by simp only [SB, f2, ty26, ty24, sFnc, len_sim ty24 rfl, reduceLT, reduceEqDiff, reduceAdd, reduceLeDiff, reduceMul, Int.reduceEq] <;> rfl⟩
  ·
    rintro ⟨m1, c3, c4, x_2⟩ a2 H2 ⟨hf2, kp2, kh2, o3, o4, e9, e10⟩
    obtain ⟨m1', m1_lt, u2, hr1, hl2⟩ := loopE_step hf2
    replace hr1 : p_graph_New_b1 fuel f_1 c3 c4 x_2 = some u2 := hr1
    unfold p_graph_New_b1 at hr1
    have f3 := And.intro f2 (And.intro e9 (And.intro e10 (And.intro (KpF kp2) ((KHF kh2)))))
    refine U_seq ?_
    refine U_reg ?_
    simp only [SB, f3, reduceLT, reduceEqDiff, reduceAdd, reduceLeDiff, reduceMul, Int.reduceEq]
    refine hold_intro ?_
    refine U_seq ?_
    rcases Bool.eq_false_or_eq_true (decide (x_2 < (f_1.blocks.length : Int))) with hb1 | hb1
    ·
      rw [if_pos hb1] at hr1
      refine U_condT (by simp only [SB, f3, hb1, reduceLT, reduceEqDiff, reduceAdd, reduceLeDiff, reduceMul, Int.reduceEq]) ?_
      refine U_skip ?_
      refine U_seq ?_
      refine U_at (fun a' H' => Kp [25] 40 a' a2 ∧ H2 = H' ∧ a'.get 25 = .bool (decide (x_2 < (f_1.blocks.length : Int))) ∧ Own2 [14, 74] H' (.sb ⟨14, H0.next (14)⟩ 0 l1.length true) 1 eInt c3 ∧ Own2 [18, 90] H' (.sb ⟨18, H0.next (18)⟩ 0 l2.length true) 1 eInt c4) ⟨by simp only [SB, f3, hb1, reduceLT, reduceEqDiff, reduceAdd, reduceLeDiff, reduceMul, Int.reduceEq], rfl, by simp only [SB, f3, hb1, reduceLT, reduceEqDiff, reduceAdd, reduceLeDiff, reduceMul, Int.reduceEq], (o3.same (by simp only [SB, f3, hb1, reduceLT, reduceEqDiff, reduceAdd, reduceLeDiff, reduceMul, Int.reduceEq])), (o4.same (by simp only [SB, f3, hb1, reduceLT, reduceEqDiff, reduceAdd, reduceLeDiff, reduceMul, Int.reduceEq]))⟩ ?_
      rintro a3 H3 ⟨kp3, rfl, e12, o5, o6⟩
      have f4 := And.intro f3 (And.intro hb1 (And.intro (KpF kp3) (e12)))
      obtain ⟨⟨c5, c6⟩, kj1, hr1⟩ := bndO hr1
      dsimp only at hr1
      refine U_cut (fun a' H' => Kp [4, 5, 6, 7, 9, 10, 26, 27, 28, 29, 30, 31, 32, 33, 34, 35, 36, 37, 38, 39] 40 a' a3 ∧ KH [14, 18, 20, 5, 6, 73, 74, 89, 90] H' H2 ∧ Own2 [14, 74] H' (.sb ⟨14, H0.next (14)⟩ 0 l1.length true) 1 eInt c5 ∧ Own2 [18, 90] H' (.sb ⟨18, H0.next (18)⟩ 0 l2.length true) 1 eInt c6 ∧ H'.get ⟨20, H0.next (20)⟩ = some ⟨2, [[.sb ⟨14, H0.next (14)⟩ 0 l1.length true, .sb ⟨18, H0.next (18)⟩ 0 l2.length true]]⟩) ?_ ?_
      ·
        refine U_block ?_
        refine U_seq ?_
        obtain ⟨x1, kx1, kj1⟩ := bndO kj1
        refine U_reg ?_
        simp only [SB, ty24, ty63, iia_sim (f := eBl) ty24 rfl ty63 kx1 rfl, row_sim (f := eBl) kx1, sBl, splice_all', f4, reduceLT, reduceEqDiff, reduceAdd, reduceLeDiff, reduceMul, Int.reduceEq]
        refine hold_intro ?_
        refine U_seq ?_
        obtain ⟨⟨r1, r2⟩, kr1, kj1⟩ := bndO kj1
        dsimp only at kj1
        refine U_reg ?_
        simp only [SB, ty63, sBl, f4, reduceLT, reduceEqDiff, reduceAdd, reduceLeDiff, reduceMul, Int.reduceEq]
        refine callP (w_graph_last kr1) ?_
        simp only [SB, ty63, sBl, ty66, sIns, splice_all', f4, reduceLT, reduceEqDiff, reduceAdd, reduceLeDiff, reduceMul, Int.reduceEq]
        refine hold_intro ?_
        refine U_seq ?_
        refine U_seq ?_
        refine U_reg ?_
        simp only [SB, f4, reduceLT, reduceEqDiff, reduceAdd, reduceLeDiff, reduceMul, Int.reduceEq]
        refine hold_intro ?_
        rcases Bool.eq_false_or_eq_true ((!r2)) with hb2 | hb2
        ·
          rw [if_pos hb2] at kj1
          refine U_condT (by simp only [SB, f4, hb2, reduceLT, reduceEqDiff, reduceAdd, reduceLeDiff, reduceMul, Int.reduceEq]) ?_
          refine U_exit rfl ?_
          replace kj1 := Option.some.inj kj1
          obtain ⟨q1, q2⟩ := Prod.mk.inj kj1
          clear kj1
          subst q1
          subst q2
          exact ⟨by simp only [SB, f4, hb2, reduceLT, reduceEqDiff, reduceAdd, reduceLeDiff, reduceMul, Int.reduceEq], by simp only [SB, f4, hb2, reduceLT, reduceEqDiff, reduceAdd, reduceLeDiff, reduceMul, Int.reduceEq], (o5.same (by simp only [SB, f4, hb2, reduceLT, reduceEqDiff, reduceAdd, reduceLeDiff, reduceMul, Int.reduceEq])), (o6.same (by simp only [SB, f4, hb2, reduceLT, reduceEqDiff, reduceAdd, reduceLeDiff, reduceMul, Int.reduceEq])), by simp only [SB, f4, hb2, reduceLT, reduceEqDiff, reduceAdd, reduceLeDiff, reduceMul, Int.reduceEq] <;> rfl⟩
        ·
          rw [if_neg (by rw [hb2]; decide)] at kj1
          refine U_condF (by simp only [SB, f4, hb2, reduceLT, reduceEqDiff, reduceAdd, reduceLeDiff, reduceMul, Int.reduceEq]) ?_
          refine U_skip ?_
          refine U_seq ?_
          refine U_reg ?_
          simp only [SB, ty66, ty64, sIns, len_sim ty64 rfl, f4, hb2, reduceLT, reduceEqDiff, reduceAdd, reduceLeDiff, reduceMul, Int.reduceEq]
          refine hold_intro ?_
          refine U_at (fun a' H' => Kp [4, 5, 6, 7, 26, 27, 28, 29, 30, 31, 32, 33, 34, 35, 36, 37, 38, 39] 40 a' a3 ∧ KH [5, 6] H' H2 ∧ a'.get 35 = .bool (!r2) ∧ a'.get 37 = .sim (r1.labels.map eStr) false ∧ a'.get 38 = .int .i64 (r1.labels.length : Int) ∧ a'.get 39 = .int .i64 0 ∧ a'.get 4 = .int .i64 x_2 ∧ Own2 [14, 74] H' (.sb ⟨14, H0.next (14)⟩ 0 l1.length true) 1 eInt c3 ∧ Own2 [18, 90] H' (.sb ⟨18, H0.next (18)⟩ 0 l2.length true) 1 eInt c4) ⟨by simp only [SB, f4, hb2, reduceLT, reduceEqDiff, reduceAdd, reduceLeDiff, reduceMul, Int.reduceEq], by simp only [SB, f4, hb2, reduceLT, reduceEqDiff, reduceAdd, reduceLeDiff, reduceMul, Int.reduceEq], by simp only [SB, f4, hb2, ty66, ty64, sIns, len_sim ty64 rfl, reduceLT, reduceEqDiff, reduceAdd, reduceLeDiff, reduceMul, Int.reduceEq], by simp only [SB, f4, hb2, ty66, ty64, sIns, len_sim ty64 rfl, reduceLT, reduceEqDiff, reduceAdd, reduceLeDiff, reduceMul, Int.reduceEq], by simp only [SB, f4, hb2, ty66, ty64, sIns, len_sim ty64 rfl, reduceLT, reduceEqDiff, reduceAdd, reduceLeDiff, reduceMul, Int.reduceEq], by simp only [SB, f4, hb2, ty66, ty64, sIns, len_sim ty64 rfl, reduceLT, reduceEqDiff, reduceAdd, reduceLeDiff, reduceMul, Int.reduceEq], by simp only [SB, f4, hb2, ty66, ty64, sIns, len_sim ty64 rfl, reduceLT, reduceEqDiff, reduceAdd, reduceLeDiff, reduceMul, Int.reduceEq], (o5.same (by simp only [SB, f4, hb2, reduceLT, reduceEqDiff, reduceAdd, reduceLeDiff, reduceMul, Int.reduceEq])), (o6.same (by simp only [SB, f4, hb2, reduceLT, reduceEqDiff, reduceAdd, reduceLeDiff, reduceMul, Int.reduceEq]))⟩ ?_
          rintro a5 H5 ⟨kp5, kh4, e14, e15, e16, e17, e18, o9, o10⟩
          have f5 := And.intro f4 (And.intro hb2 (And.intro (KpF kp5) (And.intro (KHF kh4) (And.intro e14 (And.intro e15 (And.intro e16 (And.intro e17 (e18))))))))
          obtain ⟨u3, he2, kj1⟩ := bndE kj1
          refine U_cut (fun a' H' => ∃ c9 : List (List Int), ∃ c10 : List (List Int), ∃ x_4 : Int, u3 = .n (c9, c10, x_4) ∧ Kp [9, 10, 39] 40 a' a5 ∧ KH [14, 18, 20, 73, 74, 89, 90] H' H5 ∧ Own2 [14, 74] H' (.sb ⟨14, H0.next (14)⟩ 0 l1.length true) 1 eInt c9 ∧ Own2 [18, 90] H' (.sb ⟨18, H0.next (18)⟩ 0 l2.length true) 1 eInt c10 ∧ a'.get 39 = .int .i64 x_4 ∧ H'.get ⟨20, H0.next (20)⟩ = some ⟨2, [[.sb ⟨14, H0.next (14)⟩ 0 l1.length true, .sb ⟨18, H0.next (18)⟩ 0 l2.length true]]⟩) (U_block (U_loop (fun y a' H' => match y with | (m2, c9, c10, x_4) => loopE m2 (fun s => p_graph_New_b2 fuel f_1 x_2 r1 s.1 s.2.1 s.2.2) (c9, c10, x_4) = some u3 ∧ Kp [9, 10, 39] 40 a' a5 ∧ KH [14, 18, 20, 73, 74, 89, 90] H' H5 ∧ Own2 [14, 74] H' (.sb ⟨14, H0.next (14)⟩ 0 l1.length true) 1 eInt c9 ∧ Own2 [18, 90] H' (.sb ⟨18, H0.next (18)⟩ 0 l2.length true) 1 eInt c10 ∧ a'.get 39 = .int .i64 x_4 ∧ H'.get ⟨20, H0.next (20)⟩ = some ⟨2, [[.sb ⟨14, H0.next (14)⟩ 0 l1.length true, .sb ⟨18, H0.next (18)⟩ 0 l2.length true]]⟩ : (Nat × (List (List Int)) × (List (List Int)) × Int) → Fr → Heap → Prop) (fun y : Nat × (List (List Int)) × (List (List Int)) × Int => y.1) (fuel, c3, c4, 0) ?_ ?_)) ?_
          · exact ⟨he2, by simp only [SB, f5, reduceLT, reduceEqDiff, reduceAdd, reduceLeDiff, reduceMul, Int.reduceEq], by simp only [SB, f5, reduceLT, reduceEqDiff, reduceAdd, reduceLeDiff, reduceMul, Int.reduceEq], (o9.same (by simp only [SB, f5, reduceLT, reduceEqDiff, reduceAdd, reduceLeDiff, reduceMul, Int.reduceEq])), (o10.same (by simp only [SB, f5, reduceLT, reduceEqDiff, reduceAdd, reduceLeDiff, reduceMul, Int.reduceEq])), by simp only [SB, f5, ty66, ty64, sIns, len_sim ty64 rfl, reduceLT, reduceEqDiff, reduceAdd, reduceLeDiff, reduceMul, Int.reduceEq], by simp only [SB, f5, ty66, ty64, sIns, len_sim ty64 rfl, reduceLT, reduceEqDiff, reduceAdd, reduceLeDiff, reduceMul, Int.reduceEq] <;> rfl⟩
          ·
            rintro ⟨m2, c9, c10, x_4⟩ a6 H6 ⟨hf4, kp6, kh5, o11, o12, e19, e20⟩
            obtain ⟨m2', m2_lt, u4, hr2, hl4⟩ := loopE_step hf4
            replace hr2 : p_graph_New_b2 fuel f_1 x_2 r1 c9 c10 x_4 = some u4 := hr2
            unfold p_graph_New_b2 at hr2
            have f6 := And.intro f5 (And.intro e19 (And.intro e20 (And.intro (KpF kp6) ((KHF kh5)))))
            refine U_seq ?_
            refine U_reg ?_
            simp only [SB, f6, reduceLT, reduceEqDiff, reduceAdd, reduceLeDiff, reduceMul, Int.reduceEq]
            refine hold_intro ?_
            refine U_seq ?_
            rcases Bool.eq_false_or_eq_true (decide (x_4 < (r1.labels.length : Int))) with hb3 | hb3
            ·
              rw [if_pos hb3] at hr2
              refine U_condT (by simp only [SB, f6, hb3, reduceLT, reduceEqDiff, reduceAdd, reduceLeDiff, reduceMul, Int.reduceEq]) ?_
              refine U_skip ?_
              refine U_seq ?_
              refine U_at (fun a' H' => Kp [] 40 a' a6 ∧ H6 = H' ∧ a'.get 40 = .bool (decide (x_4 < (r1.labels.length : Int))) ∧ Own2 [14, 74] H' (.sb ⟨14, H0.next (14)⟩ 0 l1.length true) 1 eInt c9 ∧ Own2 [18, 90] H' (.sb ⟨18, H0.next (18)⟩ 0 l2.length true) 1 eInt c10) ⟨by simp only [SB, f6, hb3, reduceLT, reduceEqDiff, reduceAdd, reduceLeDiff, reduceMul, Int.reduceEq], rfl, by simp only [SB, f6, hb3, reduceLT, reduceEqDiff, reduceAdd, reduceLeDiff, reduceMul, Int.reduceEq], (o11.same (by simp only [SB, f6, hb3, reduceLT, reduceEqDiff, reduceAdd, reduceLeDiff, reduceMul, Int.reduceEq])), (o12.same (by simp only [SB, f6, hb3, reduceLT, reduceEqDiff, reduceAdd, reduceLeDiff, reduceMul, Int.reduceEq]))⟩ ?_
              rintro a7 H7 ⟨kp7, rfl, e22, o13, o14⟩
              have f7 := And.intro f6 (And.intro hb3 (And.intro (KpF kp7) (e22)))
              obtain ⟨⟨c11, c12⟩, kj2, hr2⟩ := bndO hr2
              dsimp only at hr2
              refine U_cut (fun a' H' => Kp [9, 10] 40 a' a7 ∧ KH [14, 18, 73, 74, 89, 90] H' H6 ∧ Own2 [14, 74] H' (.sb ⟨14, H0.next (14)⟩ 0 l1.length true) 1 eInt c11 ∧ Own2 [18, 90] H' (.sb ⟨18, H0.next (18)⟩ 0 l2.length true) 1 eInt c12 ∧ H'.get ⟨20, H0.next (20)⟩ = some ⟨2, [[.sb ⟨14, H0.next (14)⟩ 0 l1.length true, .sb ⟨18, H0.next (18)⟩ 0 l2.length true]]⟩) ?_ ?_
              ·
                refine U_block ?_
                refine U_seq ?_
                obtain ⟨x2, kx2, kj2⟩ := bndO kj2
                refine U_reg ?_
                simp only [SB, ty64, ty9, iia_sim (f := eStr) ty64 rfl ty9 kx2 rfl, row_sim (f := eStr) kx2, f7, reduceLT, reduceEqDiff, reduceAdd, reduceLeDiff, reduceMul, Int.reduceEq]
                refine hold_intro ?_
                refine U_seq ?_
                obtain ⟨r3, kr3, kj2⟩ := bndO kj2
                refine U_reg ?_
                simp only [SB, ty26, sFnc, f7, reduceLT, reduceEqDiff, reduceAdd, reduceLeDiff, reduceMul, Int.reduceEq]
                refine callP (w_ir_Find kr3) ?_
                simp only [SB, ty26, sFnc, f7, reduceLT, reduceEqDiff, reduceAdd, reduceLeDiff, reduceMul, Int.reduceEq]
                refine hold_intro ?_
                refine U_seq ?_
                refine U_at (fun a' H' => Kp [9, 10] 40 a' a7 ∧ H6 = H' ∧ a'.get 10 = .int .i64 r3 ∧ Own2 [14, 74] H' (.sb ⟨14, H0.next (14)⟩ 0 l1.length true) 1 eInt c9 ∧ Own2 [18, 90] H' (.sb ⟨18, H0.next (18)⟩ 0 l2.length true) 1 eInt c10) ⟨by simp only [SB, f7, reduceLT, reduceEqDiff, reduceAdd, reduceLeDiff, reduceMul, Int.reduceEq], rfl, by simp only [SB, f7, ty26, sFnc, reduceLT, reduceEqDiff, reduceAdd, reduceLeDiff, reduceMul, Int.reduceEq], (o13.same (by simp only [SB, f7, reduceLT, reduceEqDiff, reduceAdd, reduceLeDiff, reduceMul, Int.reduceEq])), (o14.same (by simp only [SB, f7, reduceLT, reduceEqDiff, reduceAdd, reduceLeDiff, reduceMul, Int.reduceEq]))⟩ ?_
                rintro a9 H9 ⟨kp9, rfl, e24, o17, o18⟩
                have f8 := And.intro f7 (And.intro (KpF kp9) (e24))
                obtain ⟨b1, kb1, kj2⟩ := bndO kj2
                refine W_wf fun hwf => ?_
                refine U_cut (fun a' H' => H6 = H' ∧ Kp [] 40 a' a9 ∧ a'.get 59 = .bool b1) ?_ ?_
                · refine U_reg ?_
                  rcases Bool.eq_false_or_eq_true (decide (0 ≤ r3)) with hb4 | hb4
                  ·
                    have hx1 := hb4
                    rw [if_pos hx1] at kb1
                    obtain ⟨x3, kx3, kb1⟩ := bndO kb1
                    obtain ⟨r4, kr4, kb1⟩ := bndO kb1
                    have hq1 := (Option.some.inj kb1).symm
                    obtain ⟨w1_i, w1_r, w1_w, w1_d, w1_o, w1_n, w1_f, w1_c⟩ := Own2.at (P := Try.prog) (k := .i64) (o17.same (by simp only [SB, f8, reduceLT, reduceEqDiff, reduceAdd, reduceLeDiff, reduceMul, Int.reduceEq])) hwf ty31 rfl ty37 rfl kx3
                    have w1_1 := fun H1 hs => (w1_f H1 hs).1
                    have w1_2 := fun H1 hs => (w1_f H1 hs).2
                    simp only [SB, hb4, hq1, ty108, ty31, ty37, w1_1, w1_2, f8, reduceLT, reduceEqDiff, reduceAdd, reduceLeDiff, reduceMul, Int.reduceEq]
                    refine callLM (w_slices_Contains_int_int kr4) (.cons (((w1_o.same (by simp only [SB, f8, reduceLT, reduceEqDiff, reduceAdd, reduceLeDiff, reduceMul, Int.reduceEq]))).fz (cls cl_eInt _)) (.cons (.cl (closed_int _ _)) (.nil))) (flat_bool _) ?_
                    simp only [SB, hb4, hq1, ty108, ty31, ty37, w1_1, w1_2, f8, reduceLT, reduceEqDiff, reduceAdd, reduceLeDiff, reduceMul, Int.reduceEq]
                    refine hold_intro ?_
                    exact ⟨rfl, by simp only [SB, f8, reduceLT, reduceEqDiff, reduceAdd, reduceLeDiff, reduceMul, Int.reduceEq], by simp only [SB, f8, hb4, hq1, ty108, ty31, ty37, w1_1, w1_2, reduceLT, reduceEqDiff, reduceAdd, reduceLeDiff, reduceMul, Int.reduceEq]⟩
                  ·
                    have hx2 := hb4
                    rw [if_neg (by rw [hx2]; decide)] at kb1
                    have hq2 := (Option.some.inj kb1).symm
                    simp only [SB, hb4, hq2, f8, reduceLT, reduceEqDiff, reduceAdd, reduceLeDiff, reduceMul, Int.reduceEq]
                    refine hold_intro ?_
                    exact ⟨rfl, by simp only [SB, f8, reduceLT, reduceEqDiff, reduceAdd, reduceLeDiff, reduceMul, Int.reduceEq], by simp only [SB, f8, hb4, hq2, reduceLT, reduceEqDiff, reduceAdd, reduceLeDiff, reduceMul, Int.reduceEq]⟩
                · rintro a10 H10 ⟨rfl, kp10, e25⟩
                  have f9 := And.intro f8 (And.intro (KpF kp10) (e25))
                  rcases Bool.eq_false_or_eq_true (b1) with hb5 | hb5
                  ·
                    rw [if_pos hb5] at kj2
                    refine U_condT (by simp only [SB, f9, hb5, reduceLT, reduceEqDiff, reduceAdd, reduceLeDiff, reduceMul, Int.reduceEq]) ?_
                    refine U_seq ?_
                    obtain ⟨x4, kx4, kj2⟩ := bndO kj2
                    obtain ⟨l3, kl3, kj2⟩ := bndO kj2
                    obtain ⟨l4, kl4, kj2⟩ := bndO kj2
                    refine W_wf fun hwf => ?_
                    refine U_draw hm false 15 (by decide +kernel) (by decide) ?_
                    obtain ⟨w2_i, w2_r, w2_w, w2_d, w2_o, w2_n, w2_f, w2_c⟩ := Own2.at (P := Try.prog) (k := .i64) (o17.same (by simp only [SB, f9, hb5, reduceLT, reduceEqDiff, reduceAdd, reduceLeDiff, reduceMul, Int.reduceEq])) hwf ty31 rfl ty37 rfl kx4
                    have w2_1 := fun H1 hs => (w2_f H1 hs).1
                    have w2_2 := fun H1 hs => (w2_f H1 hs).2
                    simp only [SB, ty108, ty31, ty37, w2_1, w2_2, ty3, f9, hb5, reduceLT, reduceEqDiff, reduceAdd, reduceLeDiff, reduceMul, Int.reduceEq]
                    refine Own.appFL (f := eInt) (xs := x4) (ys := [r3]) (D := [14, 74]) (w2_o.same (by simp only [SB, f9, hb5, reduceLT, reduceEqDiff, reduceAdd, reduceLeDiff, reduceMul, Int.reduceEq])) (by simp only [put_b, f9, hb5, reduceLT, reduceEqDiff, reduceAdd, reduceLeDiff, reduceMul, Int.reduceEq]) ty37 rfl ty37 rfl ty3 rfl rfl rfl (by decide) (by simp only [srows_sb, SB, ty108, ty31, ty37, w2_1, w2_2, ty3, f9, hb5, reduceLT, reduceEqDiff, reduceAdd, reduceLeDiff, reduceMul, Int.reduceEq] <;> rfl) cl_eInt kl3 (fun s0 p0 e0 i0 hi0 => by obtain ⟨n1, n2, n3, n4⟩ := w2_n i0 hi0; cases e0; simp only [SB, ty108, ty31, ty37, w2_1, w2_2, ty3, f9, hb5, reduceLT, reduceEqDiff, reduceAdd, reduceLeDiff, reduceMul, Int.reduceEq, n2, n3, n4]) ?_
                    intro v1 H11 o20 fr_wg1 nw_wg1
                    have wg1 := w2_c _ _ _ _ _ (by simp only [SB, f9, hb5, reduceLT, reduceEqDiff, reduceAdd, reduceLeDiff, reduceMul, Int.reduceEq]) (by intro q0; first | exact Nat.le_refl _ | (simp only [SB]; split; (rename_i e0; subst e0; omega); omega)) o20 fr_wg1 nw_wg1
                    have kh8 := kh_app2 (fun i hi => (w2_n i hi).1) fr_wg1
                    have wg1_1 := fun H1 hs => (wg1 H1 hs).1
                    have wg1_2 := fun H1 hs => (wg1 H1 hs).2.1
                    simp only [SB, ty108, ty31, ty37, w2_1, w2_2, ty3, wg1_1, wg1_2, Own.cf o20, f9, hb5, KHF kh8, reduceLT, reduceEqDiff, reduceAdd, reduceLeDiff, reduceMul, Int.reduceEq]
                    refine putK_at2 wg1 (by simp only [SB, f9, hb5, KHF kh8, reduceLT, reduceEqDiff, reduceAdd, reduceLeDiff, reduceMul, Int.reduceEq]) (by simp only [SB, w2_d]) ty37 (Own.cf o20) rfl ?_
                    intro H12 o21 khH12
                    replace o21 := Own2.setL kl4 o21
                    simp only [SB, ty108, ty31, ty37, w2_1, w2_2, ty3, wg1_1, wg1_2, Own.cf o20, f9, hb5, KHF kh8, KHF khH12, reduceLT, reduceEqDiff, reduceAdd, reduceLeDiff, reduceMul, Int.reduceEq]
                    refine hold_intro ?_
                    obtain ⟨x5, kx5, kj2⟩ := bndO kj2
                    obtain ⟨l5, kl5, kj2⟩ := bndO kj2
                    obtain ⟨l6, kl6, kj2⟩ := bndO kj2
                    refine W_wf fun hwf => ?_
                    refine U_draw hm false 15 (by decide +kernel) (by decide) ?_
                    obtain ⟨w3_i, w3_r, w3_w, w3_d, w3_o, w3_n, w3_f, w3_c⟩ := Own2.at (P := Try.prog) (k := .i64) (o18.same (by simp only [SB, f9, hb5, KHF kh8, KHF khH12, reduceLT, reduceEqDiff, reduceAdd, reduceLeDiff, reduceMul, Int.reduceEq])) hwf ty31 rfl ty37 rfl kx5
                    have w3_1 := fun H1 hs => (w3_f H1 hs).1
                    have w3_2 := fun H1 hs => (w3_f H1 hs).2
                    simp only [SB, ty108, ty31, ty37, w3_1, w3_2, ty3, f9, hb5, KHF kh8, KHF khH12, reduceLT, reduceEqDiff, reduceAdd, reduceLeDiff, reduceMul, Int.reduceEq]
                    refine Own.appFL (f := eInt) (xs := x5) (ys := [x_2]) (D := [18, 90]) (w3_o.same (by simp only [SB, f9, hb5, KHF kh8, KHF khH12, reduceLT, reduceEqDiff, reduceAdd, reduceLeDiff, reduceMul, Int.reduceEq])) (by simp only [put_b, f9, hb5, KHF kh8, KHF khH12, reduceLT, reduceEqDiff, reduceAdd, reduceLeDiff, reduceMul, Int.reduceEq]) ty37 rfl ty37 rfl ty3 rfl rfl rfl (by decide) (by simp only [srows_sb, SB, ty108, ty31, ty37, w3_1, w3_2, ty3, f9, hb5, KHF kh8, KHF khH12, reduceLT, reduceEqDiff, reduceAdd, reduceLeDiff, reduceMul, Int.reduceEq] <;> rfl) cl_eInt kl5 (fun s0 p0 e0 i0 hi0 => by obtain ⟨n1, n2, n3, n4⟩ := w3_n i0 hi0; cases e0; simp only [SB, ty108, ty31, ty37, w3_1, w3_2, ty3, f9, hb5, KHF kh8, KHF khH12, reduceLT, reduceEqDiff, reduceAdd, reduceLeDiff, reduceMul, Int.reduceEq, n2, n3, n4]) ?_
                    intro v2 H13 o23 fr_wg2 nw_wg2
                    have wg2 := w3_c _ _ _ _ _ (by simp only [SB, f9, hb5, KHF kh8, KHF khH12, reduceLT, reduceEqDiff, reduceAdd, reduceLeDiff, reduceMul, Int.reduceEq]) (by intro q0; first | exact Nat.le_refl _ | (simp only [SB]; split; (rename_i e0; subst e0; omega); omega)) o23 fr_wg2 nw_wg2
                    have kh9 := kh_app2 (fun i hi => (w3_n i hi).1) fr_wg2
                    have wg2_1 := fun H1 hs => (wg2 H1 hs).1
                    have wg2_2 := fun H1 hs => (wg2 H1 hs).2.1
                    simp only [SB, ty108, ty31, ty37, w3_1, w3_2, ty3, wg2_1, wg2_2, Own.cf o23, f9, hb5, KHF kh8, KHF khH12, KHF kh9, reduceLT, reduceEqDiff, reduceAdd, reduceLeDiff, reduceMul, Int.reduceEq]
                    refine putK_at2 wg2 (by simp only [SB, f9, hb5, KHF kh8, KHF khH12, KHF kh9, reduceLT, reduceEqDiff, reduceAdd, reduceLeDiff, reduceMul, Int.reduceEq]) (by simp only [SB, w3_d]) ty37 (Own.cf o23) rfl ?_
                    intro H14 o24 khH14
                    replace o24 := Own2.setL kl6 o24
                    simp only [SB, ty108, ty31, ty37, w3_1, w3_2, ty3, wg2_1, wg2_2, Own.cf o23, f9, hb5, KHF kh8, KHF khH12, KHF kh9, KHF khH14, reduceLT, reduceEqDiff, reduceAdd, reduceLeDiff, reduceMul, Int.reduceEq]
                    refine hold_intro ?_
                    replace kj2 := Option.some.inj kj2
                    obtain ⟨q3, q4⟩ := Prod.mk.inj kj2
                    clear kj2
                    subst q3
                    subst q4
                    exact ⟨by simp only [SB, f9, hb5, KHF kh8, KHF khH12, KHF kh9, KHF khH14, reduceLT, reduceEqDiff, reduceAdd, reduceLeDiff, reduceMul, Int.reduceEq], by simp only [SB, f9, hb5, KHF kh8, KHF khH12, KHF kh9, KHF khH14, reduceLT, reduceEqDiff, reduceAdd, reduceLeDiff, reduceMul, Int.reduceEq], (Own2.sub (o21.same (by simp only [SB, f9, hb5, KHF kh8, KHF khH12, KHF kh9, KHF khH14, reduceLT, reduceEqDiff, reduceAdd, reduceLeDiff, reduceMul, Int.reduceEq])) (by simp only [SB, reduceEqDiff])), (Own2.sub (o24.same (by simp only [SB, f9, hb5, KHF kh8, KHF khH12, KHF kh9, KHF khH14, reduceLT, reduceEqDiff, reduceAdd, reduceLeDiff, reduceMul, Int.reduceEq])) (by simp only [SB, reduceEqDiff])), by simp only [SB, f9, hb5, KHF kh8, KHF khH12, KHF kh9, KHF khH14, ty108, ty31, ty37, w3_1, w3_2, ty3, wg2_1, wg2_2, Own.cf o23, reduceLT, reduceEqDiff, reduceAdd, reduceLeDiff, reduceMul, Int.reduceEq] <;> rfl⟩
                  ·
                    rw [if_neg (by rw [hb5]; decide)] at kj2
                    refine U_condF (by simp only [SB, f9, hb5, reduceLT, reduceEqDiff, reduceAdd, reduceLeDiff, reduceMul, Int.reduceEq]) ?_
                    refine U_skip ?_
                    replace kj2 := Option.some.inj kj2
                    obtain ⟨q5, q6⟩ := Prod.mk.inj kj2
                    clear kj2
                    subst q5
                    subst q6
                    exact ⟨by simp only [SB, f9, hb5, reduceLT, reduceEqDiff, reduceAdd, reduceLeDiff, reduceMul, Int.reduceEq], by simp only [SB, f9, hb5, reduceLT, reduceEqDiff, reduceAdd, reduceLeDiff, reduceMul, Int.reduceEq], (o17.same (by simp only [SB, f9, hb5, reduceLT, reduceEqDiff, reduceAdd, reduceLeDiff, reduceMul, Int.reduceEq])), (o18.same (by simp only [SB, f9, hb5, reduceLT, reduceEqDiff, reduceAdd, reduceLeDiff, reduceMul, Int.reduceEq])), by simp only [SB, f9, hb5, reduceLT, reduceEqDiff, reduceAdd, reduceLeDiff, reduceMul, Int.reduceEq] <;> rfl⟩
              ·
                rintro a8 H8 ⟨kp8, kh6, o15, o16, e23⟩
                have f10 := And.intro f7 (And.intro e23 (And.intro (KpF kp8) ((KHF kh6))))
                refine U_reg ?_
                simp only [SB, f10, reduceLT, reduceEqDiff, reduceAdd, reduceLeDiff, reduceMul, Int.reduceEq]
                refine hold_intro ?_
                replace hr2 := Option.some.inj hr2
                subst hr2
                exact ⟨(m2', c11, c12, IntKind.wrap .i64 (x_4 + 1)), m2_lt, hl4, by simp only [SB, f10, reduceLT, reduceEqDiff, reduceAdd, reduceLeDiff, reduceMul, Int.reduceEq], by simp only [SB, f10, reduceLT, reduceEqDiff, reduceAdd, reduceLeDiff, reduceMul, Int.reduceEq], (o15.same (by simp only [SB, f10, reduceLT, reduceEqDiff, reduceAdd, reduceLeDiff, reduceMul, Int.reduceEq])), (o16.same (by simp only [SB, f10, reduceLT, reduceEqDiff, reduceAdd, reduceLeDiff, reduceMul, Int.reduceEq])), by simp only [SB, f10, reduceLT, reduceEqDiff, reduceAdd, reduceLeDiff, reduceMul, Int.reduceEq], by simp only [SB, f10, reduceLT, reduceEqDiff, reduceAdd, reduceLeDiff, reduceMul, Int.reduceEq] <;> rfl⟩
            ·
              rw [if_neg (by rw [hb3]; decide)] at hr2
              refine U_condF (by simp only [SB, f6, hb3, reduceLT, reduceEqDiff, reduceAdd, reduceLeDiff, reduceMul, Int.reduceEq]) ?_
              refine U_exit rfl ?_
              replace hr2 := Option.some.inj hr2
              subst hr2
              exact ⟨_, _, _, hl4, by simp only [SB, f6, hb3, reduceLT, reduceEqDiff, reduceAdd, reduceLeDiff, reduceMul, Int.reduceEq], by simp only [SB, f6, hb3, reduceLT, reduceEqDiff, reduceAdd, reduceLeDiff, reduceMul, Int.reduceEq], (o11.same (by simp only [SB, f6, hb3, reduceLT, reduceEqDiff, reduceAdd, reduceLeDiff, reduceMul, Int.reduceEq])), (o12.same (by simp only [SB, f6, hb3, reduceLT, reduceEqDiff, reduceAdd, reduceLeDiff, reduceMul, Int.reduceEq])), by simp only [SB, f6, hb3, reduceLT, reduceEqDiff, reduceAdd, reduceLeDiff, reduceMul, Int.reduceEq], by simp only [SB, f6, hb3, reduceLT, reduceEqDiff, reduceAdd, reduceLeDiff, reduceMul, Int.reduceEq] <;> rfl⟩
          ·
            rintro a11 H15 ⟨c13, c14, x_5, rfl, kp11, kh10, o25, o26, e26, e27⟩
            replace kj1 := outE_n kj1
            dsimp only at kj1
            have f11 := And.intro f5 (And.intro e26 (And.intro e27 (And.intro (KpF kp11) ((KHF kh10)))))
            replace kj1 := Option.some.inj kj1
            obtain ⟨q7, q8⟩ := Prod.mk.inj kj1
            clear kj1
            subst q7
            subst q8
            exact ⟨by simp only [SB, f11, reduceLT, reduceEqDiff, reduceAdd, reduceLeDiff, reduceMul, Int.reduceEq], by simp only [SB, f11, reduceLT, reduceEqDiff, reduceAdd, reduceLeDiff, reduceMul, Int.reduceEq], (o25.same (by simp only [SB, f11, reduceLT, reduceEqDiff, reduceAdd, reduceLeDiff, reduceMul, Int.reduceEq])), (o26.same (by simp only [SB, f11, reduceLT, reduceEqDiff, reduceAdd, reduceLeDiff, reduceMul, Int.reduceEq])), by simp only [SB, f11, reduceLT, reduceEqDiff, reduceAdd, reduceLeDiff, reduceMul, Int.reduceEq] <;> rfl⟩
      ·
        rintro a4 H4 ⟨kp4, kh3, o7, o8, e13⟩
        have f12 := And.intro f4 (And.intro e13 (And.intro (KpF kp4) ((KHF kh3))))
        refine U_reg ?_
        simp only [SB, f12, reduceLT, reduceEqDiff, reduceAdd, reduceLeDiff, reduceMul, Int.reduceEq]
        refine hold_intro ?_
        replace hr1 := Option.some.inj hr1
        subst hr1
        exact ⟨(m1', c5, c6, IntKind.wrap .i64 (x_2 + 1)), m1_lt, hl2, by simp only [SB, f12, reduceLT, reduceEqDiff, reduceAdd, reduceLeDiff, reduceMul, Int.reduceEq], by simp only [SB, f12, reduceLT, reduceEqDiff, reduceAdd, reduceLeDiff, reduceMul, Int.reduceEq], (o7.same (by simp only [SB, f12, reduceLT, reduceEqDiff, reduceAdd, reduceLeDiff, reduceMul, Int.reduceEq])), (o8.same (by simp only [SB, f12, reduceLT, reduceEqDiff, reduceAdd, reduceLeDiff, reduceMul, Int.reduceEq])), by simp only [SB, f12, reduceLT, reduceEqDiff, reduceAdd, reduceLeDiff, reduceMul, Int.reduceEq], by simp only [SB, f12, reduceLT, reduceEqDiff, reduceAdd, reduceLeDiff, reduceMul, Int.reduceEq] <;> rfl⟩
    ·
      rw [if_neg (by rw [hb1]; decide)] at hr1
      refine U_condF (by simp only [SB, f3, hb1, reduceLT, reduceEqDiff, reduceAdd, reduceLeDiff, reduceMul, Int.reduceEq]) ?_
      refine U_exit rfl ?_
      replace hr1 := Option.some.inj hr1
      subst hr1
      exact ⟨_, _, _, hl2, by simp only [SB, f3, hb1, reduceLT, reduceEqDiff, reduceAdd, reduceLeDiff, reduceMul, Int.reduceEq], by simp only [SB, f3, hb1, reduceLT, reduceEqDiff, reduceAdd, reduceLeDiff, reduceMul, Int.reduceEq], (o3.same (by simp only [SB, f3, hb1, reduceLT, reduceEqDiff, reduceAdd, reduceLeDiff, reduceMul, Int.reduceEq])), (o4.same (by simp only [SB, f3, hb1, reduceLT, reduceEqDiff, reduceAdd, reduceLeDiff, reduceMul, Int.reduceEq])), by simp only [SB, f3, hb1, reduceLT, reduceEqDiff, reduceAdd, reduceLeDiff, reduceMul, Int.reduceEq], by simp only [SB, f3, hb1, reduceLT, reduceEqDiff, reduceAdd, reduceLeDiff, reduceMul, Int.reduceEq] <;> rfl⟩
  ·
    rintro a12 H16 ⟨c15, c16, x_6, rfl, kp12, kh11, o27, o28, e28, e29⟩
    replace h := outE_n h
    dsimp only at h
    have f13 := And.intro f2 (And.intro e28 (And.intro e29 (And.intro (KpF kp12) ((KHF kh11)))))
    refine U_seq ?_
    refine U_reg ?_
    simp only [SB, f13, reduceLT, reduceEqDiff, reduceAdd, reduceLeDiff, reduceMul, Int.reduceEq]
    refine hold_intro ?_
    refine U_ret ?_
    replace h := Option.some.inj h
    subst h
    refine ⟨.pb ⟨20, H0.next (20)⟩ 0 0, by simp only [ires, iress, Try.results15, SB, List.toList_toArray, f13, reduceLT, reduceEqDiff, reduceAdd, reduceLeDiff, reduceMul, Int.reduceEq], ?_⟩
    exact Fz_box (by simp only [SB, f13, reduceLT, reduceEqDiff, reduceAdd, reduceLeDiff, reduceMul, Int.reduceEq] <;> rfl) (.cons (((o27.same (by simp only [SB, f13, reduceLT, reduceEqDiff, reduceAdd, reduceLeDiff, reduceMul, Int.reduceEq]))).fz cl_eInt) (.cons (((o28.same (by simp only [SB, f13, reduceLT, reduceEqDiff, reduceAdd, reduceLeDiff, reduceMul, Int.reduceEq]))).fz cl_eInt) (.nil)))

theorem w_graph_Graph_Len {fuel : Nat} {g_1 : graph_Graph} {r0_ : Int} (h : p_graph_Graph_Len fuel g_1 = some r0_) : Pure1 Try.prog 17 [.pim [egraph_Graph g_1] 0 0] (.int .i64 r0_) := by
  refine Pure1_fz (all_cl (cl_pim1 cl_egraph_Graph _) all_cl0) ?_
  refine U_call 0 Try.func17 rfl (by kernel_rfl) (by simp [Try.ntmps17]) ?_
  rw [Try.ntmps17]
  refine U_at (fun a' H' => a'.n = 10 ∧ a'.b = 0 ∧ a'.get 0 = .pim [egraph_Graph g_1] 0 0) ⟨rfl, rfl, rfl⟩ ?_
  rintro a0 H0 ⟨hn0, hn1, e1⟩
  unfold p_graph_Graph_Len at h
  have f1 := And.intro hn0 (And.intro hn1 (e1))
  refine U_seq ?_
  refine U_reg ?_
  simp only [SB, f1, reduceLT, reduceEqDiff, reduceAdd, reduceLeDiff, reduceMul, Int.reduceEq]
  refine hold_intro ?_
  refine U_seq ?_
  refine U_seq ?_
  refine U_reg ?_
  simp only [SB, ty29, nil_cmp (P := Try.prog) ty29 rfl, f1, reduceLT, reduceEqDiff, reduceAdd, reduceLeDiff, reduceMul, Int.reduceEq]
  refine hold_intro ?_
  refine U_condF (by simp only [SB, f1, reduceLT, reduceEqDiff, reduceAdd, reduceLeDiff, reduceMul, Int.reduceEq]) ?_
  refine U_skip ?_
  refine U_seq ?_
  refine U_reg ?_
  simp only [SB, ty108, ty31, sgraph_Graph, len_sim ty31 rfl, f1, reduceLT, reduceEqDiff, reduceAdd, reduceLeDiff, reduceMul, Int.reduceEq]
  refine hold_intro ?_
  refine U_ret ?_
  replace h := Option.some.inj h
  subst h
  refine ⟨.int .i64 (g_1.succ.length : Int), by simp only [ires, iress, Try.results17, SB, List.toList_toArray, ty108, ty31, sgraph_Graph, len_sim ty31 rfl, f1, reduceLT, reduceEqDiff, reduceAdd, reduceLeDiff, reduceMul, Int.reduceEq], ?_⟩
  exact .cl (closed_int _ _)

theorem w_slices_Clone_int_int_own (b_ : Nat) {fuel : Nat} {s r0_ : List Int} (h : p_slices_Clone_int_int fuel s = some r0_) {H : Heap} : CallW Try.prog 131 [.sim (s.map eInt) false] H (fun rv H' => ∃ v : IV, rv = v ∧ KH [b_ + 5, b_ + 7] H' H ∧ Own [b_ + 5, b_ + 7] H' v 1 (r0_.map eInt)) := by
  refine U_call b_ Try.func131 rfl (by kernel_rfl) (by simp [Try.ntmps131]) ?_
  rw [Try.ntmps131]
  refine U_at (fun a' H' => H = H' ∧ a'.n = 8 ∧ a'.b = b_ ∧ a'.get 0 = .sim (s.map eInt) false) ⟨rfl, rfl, rfl, rfl⟩ ?_
  rintro a0 H0 ⟨rfl, hn0, hn1, e1⟩
  unfold p_slices_Clone_int_int at h
  refine U_seq ?_
  refine U_reg ?_
  simp only [SB, ty37, ty3, hn0, hn1, e1, reduceLT, reduceEqDiff, reduceAdd, reduceLeDiff, reduceMul, Int.reduceEq]
  refine hold_intro ?_
  have hsp : s = [] ∨ s ≠ [] := by cases s <;> simp
  rcases hsp with hs | hs
  · subst hs
    refine U_nil 0 (full := false) (by simp only [SB, e1, List.map_nil, reduceLT, reduceEqDiff, reduceAdd, reduceLeDiff, reduceMul, Int.reduceEq]) ?_ ?_
    · refine U_seq ?_
      refine U_seq ?_
      refine U_reg ?_
      simp only [SB, ty37, ty3, hn0, hn1, nil_nil ty37 rfl, reduceLT, reduceEqDiff, reduceAdd, reduceLeDiff, reduceMul, Int.reduceEq]
      refine hold_intro ?_
      refine U_condT (by simp only [SB, reduceLT, reduceEqDiff, reduceAdd, reduceLeDiff, reduceMul, Int.reduceEq]) ?_
      refine U_seq ?_
      refine U_reg ?_
      simp only [SB, ty37, ty3, hn0, hn1, reduceLT, reduceEqDiff, reduceAdd, reduceLeDiff, reduceMul, Int.reduceEq]
      refine hold_intro ?_
      refine U_ret ?_
      obtain rfl : [] = r0_ := by simpa [PL.app] using h
      refine ⟨.nils, by simp only [ires, iress, Try.results131, SB, List.toList_toArray, reduceLT, reduceEqDiff, reduceAdd, reduceLeDiff, reduceMul, Int.reduceEq], .nils, rfl, fun _ _ => rfl, Own.nil⟩
    · refine U_seq ?_
      refine U_seq ?_
      refine U_reg ?_
      simp only [SB, ty37, ty3, hn0, hn1, nil_sime ty37 rfl, reduceLT, reduceEqDiff, reduceAdd, reduceLeDiff, reduceMul, Int.reduceEq]
      refine hold_intro ?_
      refine U_condF (by simp only [SB, reduceLT, reduceEqDiff, reduceAdd, reduceLeDiff, reduceMul, Int.reduceEq]) ?_
      refine U_skip ?_
      refine U_seq ?_
      refine U_sub 0 (v := .sime) (by simp only [SB, reduceLT, reduceEqDiff, reduceAdd, reduceLeDiff, reduceMul, Int.reduceEq]) sub_sime ?_
      refine U_reg ?_
      simp only [SB, ty37, ty3, hn0, hn1, reduceLT, reduceEqDiff, reduceAdd, reduceLeDiff, reduceMul, Int.reduceEq]
      have hx : ∀ H, srows H 1 (.sim [] false) = some [] := fun H => by simp [srows]
      refine Own.appL (f := eInt) (xs := []) (ys := []) (D := [b_ + 5, b_ + 7]) (Own.mk (id := ⟨b_ + 5, H.next (b_ + 5)⟩) (by simp only [SB, reduceLT, reduceEqDiff, reduceAdd, reduceLeDiff, reduceMul, Int.reduceEq]) (by simp only [SB]) (by simp only [SB, hn1, reduceLT, reduceEqDiff, reduceAdd, reduceLeDiff, reduceMul, Int.reduceEq] <;> rfl)) (by simp only [SB, hn1, reduceLT, reduceEqDiff, reduceAdd, reduceLeDiff, reduceMul, Int.reduceEq]) (by simp only [SB, reduceLT, reduceEqDiff, reduceAdd, reduceLeDiff, reduceMul, Int.reduceEq]) ty37 rfl ty37 rfl ty3 rfl rfl rfl (by decide) (hx _) cl_eInt h ?_
      intro v H2 o kh
      simp only [SB, ty37, ty3, hn0, hn1, reduceLT, reduceEqDiff, reduceAdd, reduceLeDiff, reduceMul, Int.reduceEq]
      refine hold_intro ?_
      refine U_ret ?_
      refine ⟨v, by simp only [ires, iress, Try.results131, SB, List.toList_toArray, reduceLT, reduceEqDiff, reduceAdd, reduceLeDiff, reduceMul, Int.reduceEq], v, rfl, ?_, o⟩
      simp only [SB, KHF kh, reduceLT, reduceEqDiff, reduceAdd, reduceLeDiff, reduceMul, Int.reduceEq]
  · have hq : ∀ x, ibin Try.prog .eql 37 (.sim (s.map eInt) false) .nils x = some (.bool false) := fun x => nil_cons ty37 rfl hs
    refine U_seq ?_
    refine U_seq ?_
    refine U_reg ?_
    simp only [SB, ty37, ty3, hn0, hn1, e1, hq, reduceLT, reduceEqDiff, reduceAdd, reduceLeDiff, reduceMul, Int.reduceEq]
    refine hold_intro ?_
    refine U_condF (by simp only [SB, reduceLT, reduceEqDiff, reduceAdd, reduceLeDiff, reduceMul, Int.reduceEq]) ?_
    refine U_skip ?_
    refine U_seq ?_
    refine U_reg ?_
    simp only [SB, ty37, ty3, hn0, hn1, e1, reduceLT, reduceEqDiff, reduceAdd, reduceLeDiff, reduceMul, Int.reduceEq]
    refine Own.appL (f := eInt) (xs := []) (ys := s) (D := [b_ + 5, b_ + 7]) (Own.mk (id := ⟨b_ + 5, H.next (b_ + 5)⟩) (by simp only [SB, reduceLT, reduceEqDiff, reduceAdd, reduceLeDiff, reduceMul, Int.reduceEq]) (by simp only [SB]) (by simp only [SB, hn1, reduceLT, reduceEqDiff, reduceAdd, reduceLeDiff, reduceMul, Int.reduceEq] <;> rfl)) (by simp only [SB, hn1, reduceLT, reduceEqDiff, reduceAdd, reduceLeDiff, reduceMul, Int.reduceEq]) (by simp only [SB, reduceLT, reduceEqDiff, reduceAdd, reduceLeDiff, reduceMul, Int.reduceEq]) ty37 rfl ty37 rfl ty3 rfl rfl rfl (by decide) (srows_sim (f := eInt) (fun _ => by simp only [SB])) cl_eInt h ?_
    intro v H2 o kh
    simp only [SB, ty37, ty3, hn0, hn1, reduceLT, reduceEqDiff, reduceAdd, reduceLeDiff, reduceMul, Int.reduceEq]
    refine hold_intro ?_
    refine U_ret ?_
    refine ⟨v, by simp only [ires, iress, Try.results131, SB, List.toList_toArray, reduceLT, reduceEqDiff, reduceAdd, reduceLeDiff, reduceMul, Int.reduceEq], v, rfl, ?_, o⟩
    simp only [SB, KHF kh, reduceLT, reduceEqDiff, reduceAdd, reduceLeDiff, reduceMul, Int.reduceEq]
theorem w_slices_Clone_int_int {fuel : Nat} {s r0_ : List Int} (h : p_slices_Clone_int_int fuel s = some r0_) : Pure1 Try.prog 131 [.sim (s.map eInt) false] (.sim (r0_.map eInt) false) := by
  refine Pure1_fz (all_cl (cl_map cl_eInt _) all_cl0) ?_
  refine (w_slices_Clone_int_int_own 0 h).mono fun v H' hv => ?_
  obtain ⟨v, rfl, _, o⟩ := hv
  exact o.fz (cls cl_eInt _)

theorem w_graph_Graph_list {fuel : Nat} {g_1 : graph_Graph} {i_1 : Int} {which_1 : Int} {r0_ : List Int} (h : p_graph_Graph_list fuel g_1 i_1 which_1 = some r0_) : Pure1 Try.prog 79 [.pim [egraph_Graph g_1] 0 0, .int .i64 i_1, .int .i64 which_1] (.sim (r0_.map eInt) false) := by
  refine Pure1_fz (all_cl (cl_pim1 cl_egraph_Graph _) (all_cl (closed_int _ _) (all_cl (closed_int _ _) all_cl0))) ?_
  refine U_call 0 Try.func79 rfl (by kernel_rfl) (by simp [Try.ntmps79]) ?_
  rw [Try.ntmps79]
  refine U_at (fun a' H' => a'.n = 30 ∧ a'.b = 0 ∧ a'.get 0 = .pim [egraph_Graph g_1] 0 0 ∧ a'.get 1 = .int .i64 i_1 ∧ a'.get 2 = .int .i64 which_1) ⟨rfl, rfl, rfl, rfl, rfl⟩ ?_
  rintro a0 H0 ⟨hn0, hn1, e1, e2, e3⟩
  unfold p_graph_Graph_list at h
  have f1 := And.intro hn0 (And.intro hn1 (And.intro e1 (And.intro e2 (e3))))
  refine U_seq ?_
  refine U_reg ?_
  simp only [SB, f1, reduceLT, reduceEqDiff, reduceAdd, reduceLeDiff, reduceMul, Int.reduceEq]
  refine hold_intro ?_
  refine U_seq ?_
  refine U_seq ?_
  refine U_at (fun a' H' => Kp [6] 7 a' a0 ∧ H0 = H') ⟨by simp only [SB, f1, reduceLT, reduceEqDiff, reduceAdd, reduceLeDiff, reduceMul, Int.reduceEq], rfl⟩ ?_
  rintro a1 H1 ⟨kp1, rfl⟩
  obtain ⟨b1, kb1, h⟩ := bndO h
  refine U_cut (fun a' H' => H0 = H' ∧ Kp [] 7 a' a1 ∧ a'.get 14 = .bool b1) ?_ ?_
  · refine U_reg ?_
    rcases Bool.eq_false_or_eq_true (decide (i_1 < 0)) with hb1 | hb1
    ·
      have hx1 := hb1
      rw [if_pos hx1] at kb1
      have hq1 := (Option.some.inj kb1).symm
      simp only [SB, hb1, hq1, f1, KpF kp1, reduceLT, reduceEqDiff, reduceAdd, reduceLeDiff, reduceMul, Int.reduceEq]
      refine hold_intro ?_
      exact ⟨rfl, by simp only [SB, f1, KpF kp1, reduceLT, reduceEqDiff, reduceAdd, reduceLeDiff, reduceMul, Int.reduceEq], by simp only [SB, f1, KpF kp1, hb1, hq1, reduceLT, reduceEqDiff, reduceAdd, reduceLeDiff, reduceMul, Int.reduceEq]⟩
    ·
      have hx2 := hb1
      rw [if_neg (by rw [hx2]; decide)] at kb1
      obtain ⟨r1, kr1, kb1⟩ := bndO kb1
      have hq2 := (Option.some.inj kb1).symm
      simp only [SB, hb1, hq2, f1, KpF kp1, reduceLT, reduceEqDiff, reduceAdd, reduceLeDiff, reduceMul, Int.reduceEq]
      refine callP (w_graph_Graph_Len kr1) ?_
      simp only [SB, hb1, hq2, f1, KpF kp1, reduceLT, reduceEqDiff, reduceAdd, reduceLeDiff, reduceMul, Int.reduceEq]
      refine hold_intro ?_
      exact ⟨rfl, by simp only [SB, f1, KpF kp1, reduceLT, reduceEqDiff, reduceAdd, reduceLeDiff, reduceMul, Int.reduceEq], by simp only [SB, f1, KpF kp1, hb1, hq2, reduceLT, reduceEqDiff, reduceAdd, reduceLeDiff, reduceMul, Int.reduceEq]⟩
  · rintro a2 H2 ⟨rfl, kp2, e4⟩
    have f2 := And.intro f1 (And.intro (KpF kp1) (And.intro (KpF kp2) (e4)))
    rcases Bool.eq_false_or_eq_true (b1) with hb2 | hb2
    ·
      rw [if_pos hb2] at h
      refine U_condT (by simp only [SB, f2, hb2, reduceLT, reduceEqDiff, reduceAdd, reduceLeDiff, reduceMul, Int.reduceEq]) ?_
      refine U_seq ?_
      refine U_reg ?_
      simp only [SB, f2, hb2, reduceLT, reduceEqDiff, reduceAdd, reduceLeDiff, reduceMul, Int.reduceEq]
      refine hold_intro ?_
      refine U_ret ?_
      replace h := Option.some.inj h
      subst h
      refine ⟨.nils, by simp only [ires, iress, Try.results79, SB, List.toList_toArray, f2, hb2, reduceLT, reduceEqDiff, reduceAdd, reduceLeDiff, reduceMul, Int.reduceEq], ?_⟩
      exact .nils
    ·
      rw [if_neg (by rw [hb2]; decide)] at h
      refine U_condF (by simp only [SB, f2, hb2, reduceLT, reduceEqDiff, reduceAdd, reduceLeDiff, reduceMul, Int.reduceEq]) ?_
      refine U_skip ?_
      refine U_seq ?_
      obtain ⟨c1, kc1, h⟩ := bndO h
      obtain ⟨x1, kx1, h⟩ := bndO h
      obtain ⟨r2, kr2, h⟩ := bndO h
      refine U_draw hm false 12 (by decide +kernel) (by decide) ?_
      simp only [SB, ty108, ty31, sgraph_Graph, ty175, fk175, sA175, index_v2 (P := Try.prog) kc1 ty175 rfl ty31 rfl rfl, at_sim, ty37, iia_sim (f := eS eInt) ty31 rfl ty37 kx1 rfl, row_sim (f := eS eInt) kx1, f2, hb2, reduceLT, reduceEqDiff, reduceAdd, reduceLeDiff, reduceMul, Int.reduceEq]
      refine callP (w_slices_Clone_int_int kr2) ?_
      simp only [SB, ty108, ty31, sgraph_Graph, ty175, fk175, sA175, index_v2 (P := Try.prog) kc1 ty175 rfl ty31 rfl rfl, at_sim, ty37, iia_sim (f := eS eInt) ty31 rfl ty37 kx1 rfl, row_sim (f := eS eInt) kx1, f2, hb2, reduceLT, reduceEqDiff, reduceAdd, reduceLeDiff, reduceMul, Int.reduceEq]
      refine hold_intro ?_
      refine U_ret ?_
      replace h := Option.some.inj h
      subst h
      refine ⟨.sim (r2.map eInt) false, by simp only [ires, iress, Try.results79, SB, List.toList_toArray, ty108, ty31, sgraph_Graph, ty175, fk175, sA175, index_v2 (P := Try.prog) kc1 ty175 rfl ty31 rfl rfl, at_sim, ty37, iia_sim (f := eS eInt) ty31 rfl ty37 kx1 rfl, row_sim (f := eS eInt) kx1, f2, hb2, reduceLT, reduceEqDiff, reduceAdd, reduceLeDiff, reduceMul, Int.reduceEq], ?_⟩
      exact .cl (cl_map cl_eInt _)

theorem w_graph_Graph_Succ {fuel : Nat} {g_1 : graph_Graph} {i_1 : Int} {r0_ : List Int} (h : p_graph_Graph_Succ fuel g_1 i_1 = some r0_) : Pure1 Try.prog 20 [.pim [egraph_Graph g_1] 0 0, .int .i64 i_1] (.sim (r0_.map eInt) false) := by
  refine Pure1_fz (all_cl (cl_pim1 cl_egraph_Graph _) (all_cl (closed_int _ _) all_cl0)) ?_
  refine U_call 0 Try.func20 rfl (by kernel_rfl) (by simp [Try.ntmps20]) ?_
  rw [Try.ntmps20]
  refine U_at (fun a' H' => a'.n = 8 ∧ a'.b = 0 ∧ a'.get 0 = .pim [egraph_Graph g_1] 0 0 ∧ a'.get 1 = .int .i64 i_1) ⟨rfl, rfl, rfl, rfl⟩ ?_
  rintro a0 H0 ⟨hn0, hn1, e1, e2⟩
  unfold p_graph_Graph_Succ at h
  have f1 := And.intro hn0 (And.intro hn1 (And.intro e1 (e2)))
  refine U_seq ?_
  refine U_reg ?_
  simp only [SB, f1, reduceLT, reduceEqDiff, reduceAdd, reduceLeDiff, reduceMul, Int.reduceEq]
  refine hold_intro ?_
  refine U_seq ?_
  obtain ⟨r1, kr1, h⟩ := bndO h
  refine U_reg ?_
  simp only [SB, f1, reduceLT, reduceEqDiff, reduceAdd, reduceLeDiff, reduceMul, Int.reduceEq]
  refine callP (w_graph_Graph_list kr1) ?_
  simp only [SB, f1, reduceLT, reduceEqDiff, reduceAdd, reduceLeDiff, reduceMul, Int.reduceEq]
  refine hold_intro ?_
  refine U_ret ?_
  replace h := Option.some.inj h
  subst h
  refine ⟨.sim (r1.map eInt) false, by simp only [ires, iress, Try.results20, SB, List.toList_toArray, f1, reduceLT, reduceEqDiff, reduceAdd, reduceLeDiff, reduceMul, Int.reduceEq], ?_⟩
  exact .cl (cl_map cl_eInt _)

theorem w_dyehouseref12_Ints {fuel : Nat} {av_1 : List Int} {b_1 : List Int} {r0_ : Bool} (h : p_dyehouseref12_Ints fuel av_1 b_1 = some r0_) : Pure1 Try.prog 19 [.sim (av_1.map eInt) false, .sim (b_1.map eInt) false] (.bool r0_) := by
  refine Pure1_fz (all_cl (cl_map cl_eInt _) (all_cl (cl_map cl_eInt _) all_cl0)) ?_
  refine U_call 0 Try.func19 rfl (by kernel_rfl) (by simp [Try.ntmps19]) ?_
  rw [Try.ntmps19]
  refine U_at (fun a' H' => a'.n = 26 ∧ a'.b = 0 ∧ a'.get 0 = .sim (av_1.map eInt) false ∧ a'.get 1 = .sim (b_1.map eInt) false) ⟨rfl, rfl, rfl, rfl⟩ ?_
  rintro a0 H0 ⟨hn0, hn1, e1, e2⟩
  unfold p_dyehouseref12_Ints at h
  have f1 := And.intro hn0 (And.intro hn1 (And.intro e1 (e2)))
  refine U_seq ?_
  refine U_reg ?_
  simp only [SB, f1, reduceLT, reduceEqDiff, reduceAdd, reduceLeDiff, reduceMul, Int.reduceEq]
  refine hold_intro ?_
  refine U_seq ?_
  refine U_seq ?_
  refine U_reg ?_
  simp only [SB, len_sim ty37 rfl, f1, reduceLT, reduceEqDiff, reduceAdd, reduceLeDiff, reduceMul, Int.reduceEq]
  refine hold_intro ?_
  rcases Bool.eq_false_or_eq_true (decide ((av_1.length : Int) ≠ (b_1.length : Int))) with hb1 | hb1
  ·
    rw [if_pos hb1] at h
    refine U_condT (by simp only [SB, f1, hb1, len_sim ty37 rfl, reduceLT, reduceEqDiff, reduceAdd, reduceLeDiff, reduceMul, Int.reduceEq]) ?_
    refine U_seq ?_
    refine U_reg ?_
    simp only [SB, f1, hb1, reduceLT, reduceEqDiff, reduceAdd, reduceLeDiff, reduceMul, Int.reduceEq]
    refine hold_intro ?_
    refine U_ret ?_
    replace h := Option.some.inj h
    subst h
    refine ⟨.bool false, by simp only [ires, iress, Try.results19, SB, List.toList_toArray, f1, hb1, reduceLT, reduceEqDiff, reduceAdd, reduceLeDiff, reduceMul, Int.reduceEq], ?_⟩
    exact .cl (closed_bool _)
  ·
    rw [if_neg (by rw [hb1]; decide)] at h
    refine U_condF (by simp only [SB, f1, hb1, len_sim ty37 rfl, reduceLT, reduceEqDiff, reduceAdd, reduceLeDiff, reduceMul, Int.reduceEq]) ?_
    refine U_skip ?_
    refine U_seq ?_
    refine U_seq ?_
    refine U_reg ?_
    simp only [SB, f1, hb1, reduceLT, reduceEqDiff, reduceAdd, reduceLeDiff, reduceMul, Int.reduceEq]
    refine hold_intro ?_
    refine U_at (fun a' H' => Kp [4, 5] 6 a' a0 ∧ H0 = H' ∧ a'.get 10 = .bool (decide ((av_1.length : Int) ≠ (b_1.length : Int))) ∧ a'.get 5 = .int .i64 0) ⟨by simp only [SB, f1, hb1, reduceLT, reduceEqDiff, reduceAdd, reduceLeDiff, reduceMul, Int.reduceEq], rfl, by simp only [SB, f1, hb1, reduceLT, reduceEqDiff, reduceAdd, reduceLeDiff, reduceMul, Int.reduceEq], by simp only [SB, f1, hb1, reduceLT, reduceEqDiff, reduceAdd, reduceLeDiff, reduceMul, Int.reduceEq]⟩ ?_
    rintro a1 H1 ⟨kp1, rfl, e3, e4⟩
    have f2 := And.intro f1 (And.intro hb1 (And.intro (KpF kp1) (And.intro e3 (e4))))
    obtain ⟨u1, he1, h⟩ := bndE h
    obtain ⟨hhi1, hlo1, he1⟩ := toE_facts he1
    refine U_cut (fun a' H' => u1 = .n () ∧ Kp [4, 5] 6 a' a1 ∧ KH [] H' H0) (U_block (U_loop (fun y a' H' => match y with | i1 => forE ((av_1.length : Int) - i1).toNat i1 (fun i _ => p_dyehouseref12_Ints_b1 fuel av_1 b_1 i) () = some u1 ∧ 0 ≤ i1 ∧ Kp [4, 5] 6 a' a1 ∧ KH [] H' H0 ∧ a'.get 5 = .int .i64 i1 : Int → Fr → Heap → Prop) (fun y : Int => ((av_1.length : Int) - y).toNat) 0 ?_ ?_)) ?_
    · exact ⟨he1, Int.le_refl _, by simp only [SB, f2, reduceLT, reduceEqDiff, reduceAdd, reduceLeDiff, reduceMul, Int.reduceEq], by simp only [SB, f2, reduceLT, reduceEqDiff, reduceAdd, reduceLeDiff, reduceMul, Int.reduceEq], by simp only [SB, f2, reduceLT, reduceEqDiff, reduceAdd, reduceLeDiff, reduceMul, Int.reduceEq]⟩
    ·
      rintro i1 a2 H2 ⟨hf2, hl1, kp2, kh1, e5⟩
      by_cases hlt1 : i1 < (av_1.length : Int)
      ·
        obtain ⟨u2, hr1, hl2⟩ := forE_step hf2 hlt1
        replace hr1 : p_dyehouseref12_Ints_b1 fuel av_1 b_1 i1 = some u2 := hr1
        unfold p_dyehouseref12_Ints_b1 at hr1
        have hw1 := wrap_next hlt1 hhi1 hlo1 hl1
        have hlt1_t : decide (i1 < (av_1.length : Int)) = true := decide_eq_true hlt1
        have f3 := And.intro f2 (And.intro (KpF kp2) (And.intro (KHF kh1) (And.intro e5 (And.intro hw1 (hlt1_t)))))
        refine U_seq (U_seq ?_)
        refine U_reg ?_
        simp only [SB, len_sim ty37 rfl, f3, reduceLT, reduceEqDiff, reduceAdd, reduceLeDiff, reduceMul, Int.reduceEq]
        refine hold_intro ?_
        refine U_condT (by simp only [SB, f3, len_sim ty37 rfl, reduceLT, reduceEqDiff, reduceAdd, reduceLeDiff, reduceMul, Int.reduceEq]) (U_skip ?_)
        refine U_seq ?_
        refine U_block ?_
        refine U_seq ?_
        obtain ⟨x1, kx1, hr1⟩ := bndO hr1
        obtain ⟨x2, kx2, hr1⟩ := bndO hr1
        refine U_draw hm false 8 (by decide +kernel) (by decide) ?_
        simp only [SB, ty37, ty3, iia_sim (f := eInt) ty37 rfl ty3 kx1 rfl, row_sim (f := eInt) kx1, iia_sim (f := eInt) ty37 rfl ty3 kx2 rfl, row_sim (f := eInt) kx2, f3, reduceLT, reduceEqDiff, reduceAdd, reduceLeDiff, reduceMul, Int.reduceEq]
        refine hold_intro ?_
        rcases Bool.eq_false_or_eq_true (decide (x1 ≠ x2)) with hb2 | hb2
        ·
          rw [if_pos hb2] at hr1
          refine U_condT (by simp only [SB, f3, hb2, ty37, ty3, iia_sim (f := eInt) ty37 rfl ty3 kx1 rfl, row_sim (f := eInt) kx1, iia_sim (f := eInt) ty37 rfl ty3 kx2 rfl, row_sim (f := eInt) kx2, reduceLT, reduceEqDiff, reduceAdd, reduceLeDiff, reduceMul, Int.reduceEq]) ?_
          refine U_seq ?_
          refine U_reg ?_
          simp only [SB, f3, hb2, reduceLT, reduceEqDiff, reduceAdd, reduceLeDiff, reduceMul, Int.reduceEq]
          refine hold_intro ?_
          refine U_ret ?_
          replace hr1 := Option.some.inj hr1
          subst hr1
          replace hl2 : u1 = .r _ := hl2
          subst hl2
          replace h := outE_r h
          replace h := Option.some.inj h
          subst h
          refine ⟨.bool false, by simp only [ires, iress, Try.results19, SB, List.toList_toArray, f3, hb2, reduceLT, reduceEqDiff, reduceAdd, reduceLeDiff, reduceMul, Int.reduceEq], ?_⟩
          exact .cl (closed_bool _)
        ·
          rw [if_neg (by rw [hb2]; decide)] at hr1
          refine U_condF (by simp only [SB, f3, hb2, ty37, ty3, iia_sim (f := eInt) ty37 rfl ty3 kx1 rfl, row_sim (f := eInt) kx1, iia_sim (f := eInt) ty37 rfl ty3 kx2 rfl, row_sim (f := eInt) kx2, reduceLT, reduceEqDiff, reduceAdd, reduceLeDiff, reduceMul, Int.reduceEq]) ?_
          refine U_skip ?_
          refine U_reg ?_
          simp only [SB, f3, hb2, reduceLT, reduceEqDiff, reduceAdd, reduceLeDiff, reduceMul, Int.reduceEq]
          refine hold_intro ?_
          replace hr1 := Option.some.inj hr1
          subst hr1
          refine ⟨i1 + 1, ?_, hl2, Int.le_add_one hl1, by simp only [SB, f3, hb2, reduceLT, reduceEqDiff, reduceAdd, reduceLeDiff, reduceMul, Int.reduceEq], by simp only [SB, f3, hb2, reduceLT, reduceEqDiff, reduceAdd, reduceLeDiff, reduceMul, Int.reduceEq], by simp only [SB, f3, hb2, reduceLT, reduceEqDiff, reduceAdd, reduceLeDiff, reduceMul, Int.reduceEq]⟩
          show ((av_1.length : Int) - (i1 + 1)).toNat < ((av_1.length : Int) - i1).toNat; omega
      ·
        have hlt1_e := forE_end hf2 hlt1
        have hlt1_t : decide (i1 < (av_1.length : Int)) = false := decide_eq_false hlt1
        have f4 := And.intro f2 (And.intro (KpF kp2) (And.intro (KHF kh1) (And.intro e5 (hlt1_t))))
        refine U_seq (U_seq ?_)
        refine U_reg ?_
        simp only [SB, len_sim ty37 rfl, f4, reduceLT, reduceEqDiff, reduceAdd, reduceLeDiff, reduceMul, Int.reduceEq]
        refine hold_intro ?_
        refine U_condF (by simp only [SB, f4, len_sim ty37 rfl, reduceLT, reduceEqDiff, reduceAdd, reduceLeDiff, reduceMul, Int.reduceEq]) (U_exit rfl ?_)
        exact ⟨hlt1_e, by simp only [SB, f4, reduceLT, reduceEqDiff, reduceAdd, reduceLeDiff, reduceMul, Int.reduceEq], by simp only [SB, f4, reduceLT, reduceEqDiff, reduceAdd, reduceLeDiff, reduceMul, Int.reduceEq]⟩
    ·
      rintro a3 H3 ⟨rfl, kp3, kh2⟩
      replace h := outE_n h
      have f5 := And.intro f2 (And.intro (KpF kp3) ((KHF kh2)))
      refine U_seq ?_
      refine U_reg ?_
      simp only [SB, f5, reduceLT, reduceEqDiff, reduceAdd, reduceLeDiff, reduceMul, Int.reduceEq]
      refine hold_intro ?_
      refine U_ret ?_
      replace h := Option.some.inj h
      subst h
      refine ⟨.bool true, by simp only [ires, iress, Try.results19, SB, List.toList_toArray, f5, reduceLT, reduceEqDiff, reduceAdd, reduceLeDiff, reduceMul, Int.reduceEq], ?_⟩
      exact .cl (closed_bool _)

theorem w_graph_Graph_Pred {fuel : Nat} {g_1 : graph_Graph} {i_1 : Int} {r0_ : List Int} (h : p_graph_Graph_Pred fuel g_1 i_1 = some r0_) : Pure1 Try.prog 21 [.pim [egraph_Graph g_1] 0 0, .int .i64 i_1] (.sim (r0_.map eInt) false) := by
  refine Pure1_fz (all_cl (cl_pim1 cl_egraph_Graph _) (all_cl (closed_int _ _) all_cl0)) ?_
  refine U_call 0 Try.func21 rfl (by kernel_rfl) (by simp [Try.ntmps21]) ?_
  rw [Try.ntmps21]
  refine U_at (fun a' H' => a'.n = 8 ∧ a'.b = 0 ∧ a'.get 0 = .pim [egraph_Graph g_1] 0 0 ∧ a'.get 1 = .int .i64 i_1) ⟨rfl, rfl, rfl, rfl⟩ ?_
  rintro a0 H0 ⟨hn0, hn1, e1, e2⟩
  unfold p_graph_Graph_Pred at h
  have f1 := And.intro hn0 (And.intro hn1 (And.intro e1 (e2)))
  refine U_seq ?_
  refine U_reg ?_
  simp only [SB, f1, reduceLT, reduceEqDiff, reduceAdd, reduceLeDiff, reduceMul, Int.reduceEq]
  refine hold_intro ?_
  refine U_seq ?_
  obtain ⟨r1, kr1, h⟩ := bndO h
  refine U_reg ?_
  simp only [SB, f1, reduceLT, reduceEqDiff, reduceAdd, reduceLeDiff, reduceMul, Int.reduceEq]
  refine callP (w_graph_Graph_list kr1) ?_
  simp only [SB, f1, reduceLT, reduceEqDiff, reduceAdd, reduceLeDiff, reduceMul, Int.reduceEq]
  refine hold_intro ?_
  refine U_ret ?_
  replace h := Option.some.inj h
  subst h
  refine ⟨.sim (r1.map eInt) false, by simp only [ires, iress, Try.results21, SB, List.toList_toArray, f1, reduceLT, reduceEqDiff, reduceAdd, reduceLeDiff, reduceMul, Int.reduceEq], ?_⟩
  exact .cl (cl_map cl_eInt _)

theorem w_bits_New {fuel : Nat} {nv_1 : Int} {r0_ : bits_Set} (h : p_bits_New fuel nv_1 = some r0_) : Pure1 Try.prog 85 [.int .i64 nv_1] (.pim [ebits_Set r0_] 0 0) := by
  refine Pure1_fz (all_cl (closed_int _ _) all_cl0) ?_
  refine U_call 0 Try.func85 rfl (by kernel_rfl) (by simp [Try.ntmps85]) ?_
  rw [Try.ntmps85]
  refine U_at (fun a' H' => a'.n = 13 ∧ a'.b = 0 ∧ a'.get 0 = .int .i64 nv_1) ⟨rfl, rfl, rfl⟩ ?_
  rintro a0 H0 ⟨hn0, hn1, e1⟩
  unfold p_bits_New at h
  have f1 := And.intro hn0 (And.intro hn1 (e1))
  refine U_seq ?_
  refine U_reg ?_
  simp only [SB, f1, reduceLT, reduceEqDiff, reduceAdd, reduceLeDiff, reduceMul, Int.reduceEq]
  refine hold_intro ?_
  refine U_seq ?_
  refine U_reg ?_
  simp only [SB, f1, reduceLT, reduceEqDiff, reduceAdd, reduceLeDiff, reduceMul, Int.reduceEq]
  refine hold_intro ?_
  refine U_seq ?_
  obtain ⟨l1, kl1, h⟩ := bndO h
  refine U_reg ?_
  simp only [SB, ty115, ty114, imk_some (d := 10) (f := eI .u64) ty115 rfl ty114 rfl rfl (by decide) kl1, ty117, fk117, f1, reduceLT, reduceEqDiff, reduceAdd, reduceLeDiff, reduceMul, Int.reduceEq]
  refine hold_intro ?_
  refine U_at (fun a' H' => Kp [0, 2] 3 a' a0 ∧ KH [10, 12] H' H0 ∧ a'.get 2 = .pb ⟨12, H0.next (12)⟩ 0 0 ∧ Own [10] H' (.sb ⟨10, H0.next (10)⟩ 0 l1.length true) 1 (l1.map (eI .u64)) ∧ H'.get ⟨12, H0.next (12)⟩ = some ⟨2, [[.int .i64 (if 0 > nv_1 then 0 else nv_1), .sb ⟨10, H0.next (10)⟩ 0 l1.length true]]⟩) ⟨by simp only [SB, f1, reduceLT, reduceEqDiff, reduceAdd, reduceLeDiff, reduceMul, Int.reduceEq], by simp only [SB, f1, reduceLT, reduceEqDiff, reduceAdd, reduceLeDiff, reduceMul, Int.reduceEq], by simp only [SB, f1, ty115, ty114, imk_some (d := 10) (f := eI .u64) ty115 rfl ty114 rfl rfl (by decide) kl1, ty117, fk117, reduceLT, reduceEqDiff, reduceAdd, reduceLeDiff, reduceMul, Int.reduceEq], (Own.mk (id := ⟨10, H0.next (10)⟩) (by simp only [SB, reduceEqDiff]) (by simp only [SB]) (by simp only [SB, f1, reduceLT, reduceEqDiff, reduceAdd, reduceLeDiff, reduceMul, Int.reduceEq] <;> rfl)), by simp only [SB, f1, ty115, ty114, imk_some (d := 10) (f := eI .u64) ty115 rfl ty114 rfl rfl (by decide) kl1, ty117, fk117, reduceLT, reduceEqDiff, reduceAdd, reduceLeDiff, reduceMul, Int.reduceEq] <;> rfl⟩ ?_
  rintro a1 H1 ⟨kp1, kh1, e2, o2, e3⟩
  have f2 := And.intro f1 (And.intro (KpF kp1) (And.intro (KHF kh1) (And.intro e2 (e3))))
  refine U_ret ?_
  replace h := Option.some.inj h
  subst h
  refine ⟨.pb ⟨12, H0.next (12)⟩ 0 0, by simp only [ires, iress, Try.results85, SB, List.toList_toArray, ty115, ty114, imk_some (d := 10) (f := eI .u64) ty115 rfl ty114 rfl rfl (by decide) kl1, ty117, fk117, f2, reduceLT, reduceEqDiff, reduceAdd, reduceLeDiff, reduceMul, Int.reduceEq], ?_⟩
  exact Fz_box (by simp only [SB, f2, ty115, ty114, imk_some (d := 10) (f := eI .u64) ty115 rfl ty114 rfl rfl (by decide) kl1, ty117, fk117, reduceLT, reduceEqDiff, reduceAdd, reduceLeDiff, reduceMul, Int.reduceEq] <;> rfl) (.cons (.cl (closed_int _ _)) (.cons (((o2.same (by simp only [SB, f2, reduceLT, reduceEqDiff, reduceAdd, reduceLeDiff, reduceMul, Int.reduceEq]))).fz (cls (cl_eI .u64) _)) (.nil)))

theorem w_bits_Set_in {fuel : Nat} {s_1 : bits_Set} {i_1 : Int} {r0_ : Bool} (h : p_bits_Set_in fuel s_1 i_1 = some r0_) : Pure1 Try.prog 81 [.pim [ebits_Set s_1] 0 0, .int .i64 i_1] (.bool r0_) := by
  refine Pure1_fz (all_cl (cl_pim1 cl_ebits_Set _) (all_cl (closed_int _ _) all_cl0)) ?_
  refine U_call 0 Try.func81 rfl (by kernel_rfl) (by simp [Try.ntmps81]) ?_
  rw [Try.ntmps81]
  refine U_at (fun a' H' => a'.n = 19 ∧ a'.b = 0 ∧ a'.get 0 = .pim [ebits_Set s_1] 0 0 ∧ a'.get 1 = .int .i64 i_1) ⟨rfl, rfl, rfl, rfl⟩ ?_
  rintro a0 H0 ⟨hn0, hn1, e1, e2⟩
  unfold p_bits_Set_in at h
  have f1 := And.intro hn0 (And.intro hn1 (And.intro e1 (e2)))
  refine U_seq ?_
  refine U_reg ?_
  simp only [SB, f1, reduceLT, reduceEqDiff, reduceAdd, reduceLeDiff, reduceMul, Int.reduceEq]
  refine hold_intro ?_
  refine U_seq ?_
  refine U_at (fun a' H' => Kp [4] 5 a' a0 ∧ H0 = H' ∧ a'.get 4 = .bool false) ⟨by simp only [SB, f1, reduceLT, reduceEqDiff, reduceAdd, reduceLeDiff, reduceMul, Int.reduceEq], rfl, by simp only [SB, f1, reduceLT, reduceEqDiff, reduceAdd, reduceLeDiff, reduceMul, Int.reduceEq]⟩ ?_
  rintro a1 H1 ⟨kp1, rfl, e3⟩
  have f2 := And.intro f1 (And.intro (KpF kp1) (e3))
  refine U_cut (fun a' H' => H0 = H' ∧ Kp [4] 5 a' a1 ∧ a'.get 4 = .bool ((true && (decide (0 ≤ i_1))) && (decide (i_1 < s_1.n)))) ?_ ?_
  · refine U_reg ?_
    rcases Bool.eq_false_or_eq_true (decide (0 ≤ i_1)) with hb1 | hb1
    ·
      simp only [SB, hb1, ty44, nil_cmp (P := Try.prog) ty44 rfl, ty117, ty3, sbits_Set, f2, reduceLT, reduceEqDiff, reduceAdd, reduceLeDiff, reduceMul, Int.reduceEq]
      refine hold_intro ?_
      exact ⟨rfl, by simp only [SB, f2, reduceLT, reduceEqDiff, reduceAdd, reduceLeDiff, reduceMul, Int.reduceEq], by simp only [SB, f2, hb1, ty44, nil_cmp (P := Try.prog) ty44 rfl, ty117, ty3, sbits_Set, reduceLT, reduceEqDiff, reduceAdd, reduceLeDiff, reduceMul, Int.reduceEq]⟩
    ·
      simp only [SB, hb1, ty44, nil_cmp (P := Try.prog) ty44 rfl, f2, reduceLT, reduceEqDiff, reduceAdd, reduceLeDiff, reduceMul, Int.reduceEq]
      refine hold_intro ?_
      exact ⟨rfl, by simp only [SB, f2, reduceLT, reduceEqDiff, reduceAdd, reduceLeDiff, reduceMul, Int.reduceEq], by simp only [SB, f2, hb1, ty44, nil_cmp (P := Try.prog) ty44 rfl, reduceLT, reduceEqDiff, reduceAdd, reduceLeDiff, reduceMul, Int.reduceEq]⟩
  · rintro a2 H2 ⟨rfl, kp2, e4⟩
    have f3 := And.intro f2 (And.intro (KpF kp2) (e4))
    refine U_ret ?_
    replace h := Option.some.inj h
    subst h
    refine ⟨.bool ((true && (decide (0 ≤ i_1))) && (decide (i_1 < s_1.n))), by simp only [ires, iress, Try.results81, SB, List.toList_toArray, f3, reduceLT, reduceEqDiff, reduceAdd, reduceLeDiff, reduceMul, Int.reduceEq], ?_⟩
    exact .cl (closed_bool _)

theorem w_bits_Set_Has {fuel : Nat} {s_1 : bits_Set} {i_1 : Int} {r0_ : Bool} (h : p_bits_Set_Has fuel s_1 i_1 = some r0_) : Pure1 Try.prog 26 [.pim [ebits_Set s_1] 0 0, .int .i64 i_1] (.bool r0_) := by
  refine Pure1_fz (all_cl (cl_pim1 cl_ebits_Set _) (all_cl (closed_int _ _) all_cl0)) ?_
  refine U_call 0 Try.func26 rfl (by kernel_rfl) (by simp [Try.ntmps26]) ?_
  rw [Try.ntmps26]
  refine U_at (fun a' H' => a'.n = 23 ∧ a'.b = 0 ∧ a'.get 0 = .pim [ebits_Set s_1] 0 0 ∧ a'.get 1 = .int .i64 i_1) ⟨rfl, rfl, rfl, rfl⟩ ?_
  rintro a0 H0 ⟨hn0, hn1, e1, e2⟩
  unfold p_bits_Set_Has at h
  have f1 := And.intro hn0 (And.intro hn1 (And.intro e1 (e2)))
  refine U_seq ?_
  refine U_reg ?_
  simp only [SB, f1, reduceLT, reduceEqDiff, reduceAdd, reduceLeDiff, reduceMul, Int.reduceEq]
  refine hold_intro ?_
  refine U_seq ?_
  refine U_at (fun a' H' => Kp [4] 5 a' a0 ∧ H0 = H' ∧ a'.get 4 = .bool false) ⟨by simp only [SB, f1, reduceLT, reduceEqDiff, reduceAdd, reduceLeDiff, reduceMul, Int.reduceEq], rfl, by simp only [SB, f1, reduceLT, reduceEqDiff, reduceAdd, reduceLeDiff, reduceMul, Int.reduceEq]⟩ ?_
  rintro a1 H1 ⟨kp1, rfl, e3⟩
  have f2 := And.intro f1 (And.intro (KpF kp1) (e3))
  obtain ⟨r1, kr1, h⟩ := bndO h
  obtain ⟨b1, kb1, h⟩ := bndO h
  refine U_cut (fun a' H' => H0 = H' ∧ Kp [4] 5 a' a1 ∧ a'.get 4 = .bool b1) ?_ ?_
  · refine U_reg ?_
    rcases Bool.eq_false_or_eq_true (r1) with hb1 | hb1
    ·
      have hx1 := hb1
      rw [if_pos hx1] at kb1
      obtain ⟨x1, kx1, kb1⟩ := bndO kb1
      obtain ⟨x2, kx2, kb1⟩ := bndO kb1
      have hq1 := (Option.some.inj kb1).symm
      simp only [SB, hb1, hq1, f2, reduceLT, reduceEqDiff, reduceAdd, reduceLeDiff, reduceMul, Int.reduceEq]
      refine callP (w_bits_Set_in kr1) ?_
      simp only [SB, hb1, hq1, ty117, ty115, sbits_Set, ty114, iia_sim (f := eI .u64) ty115 rfl ty114 kx1 rfl, row_sim (f := eI .u64) kx1, bin_shr' kx2, f2, reduceLT, reduceEqDiff, reduceAdd, reduceLeDiff, reduceMul, Int.reduceEq]
      refine hold_intro ?_
      exact ⟨rfl, by simp only [SB, f2, reduceLT, reduceEqDiff, reduceAdd, reduceLeDiff, reduceMul, Int.reduceEq], by simp only [SB, f2, hb1, hq1, ty117, ty115, sbits_Set, ty114, iia_sim (f := eI .u64) ty115 rfl ty114 kx1 rfl, row_sim (f := eI .u64) kx1, bin_shr' kx2, reduceLT, reduceEqDiff, reduceAdd, reduceLeDiff, reduceMul, Int.reduceEq]⟩
    ·
      have hx2 := hb1
      rw [if_neg (by rw [hx2]; decide)] at kb1
      have hq2 := (Option.some.inj kb1).symm
      simp only [SB, hb1, hq2, f2, reduceLT, reduceEqDiff, reduceAdd, reduceLeDiff, reduceMul, Int.reduceEq]
      refine callP (w_bits_Set_in kr1) ?_
      simp only [SB, hb1, hq2, f2, reduceLT, reduceEqDiff, reduceAdd, reduceLeDiff, reduceMul, Int.reduceEq]
      refine hold_intro ?_
      exact ⟨rfl, by simp only [SB, f2, reduceLT, reduceEqDiff, reduceAdd, reduceLeDiff, reduceMul, Int.reduceEq], by simp only [SB, f2, hb1, hq2, reduceLT, reduceEqDiff, reduceAdd, reduceLeDiff, reduceMul, Int.reduceEq]⟩
  · rintro a2 H2 ⟨rfl, kp2, e4⟩
    have f3 := And.intro f2 (And.intro (KpF kp2) (e4))
    refine U_ret ?_
    replace h := Option.some.inj h
    subst h
    refine ⟨.bool b1, by simp only [ires, iress, Try.results26, SB, List.toList_toArray, f3, reduceLT, reduceEqDiff, reduceAdd, reduceLeDiff, reduceMul, Int.reduceEq], ?_⟩
    exact .cl (closed_bool _)

theorem w_bits_Set_Add (b_ : Nat) {fuel : Nat} {s_1 : bits_Set} {i_1 : Int} {r0_ : Bool} {m0_ : bits_Set} (h : p_bits_Set_Add fuel s_1 i_1 = some (r0_, m0_)) {k0q g0q : Nat} {k0_1q : Nat} {v0_1q : IV} {H : Heap} (ha0 : k0q ∉ []) (ha1 : k0_1q ∉ [k0q]) (hb0q : H.get ⟨k0q, g0q⟩ = some ⟨2, [[.int .i64 s_1.n, v0_1q]]⟩) (o0_1q : Own [k0_1q] H v0_1q 1 (s_1.words.map (eI .u64))) : CallW Try.prog 87 [.pb ⟨k0q, g0q⟩ 0 0, .int .i64 i_1] H (fun rv H' => rv = (.bool r0_ : IV) ∧ KH [k0q, k0_1q] H' H ∧ H'.get ⟨k0q, g0q⟩ = some ⟨2, [[.int .i64 m0_.n, v0_1q]]⟩ ∧ Own [k0_1q] H' v0_1q 1 (m0_.words.map (eI .u64))) := by
  refine U_call b_ Try.func87 rfl (by kernel_rfl) (by simp [Try.ntmps87]) ?_
  rw [Try.ntmps87]
  refine U_at (fun a' H' => H = H' ∧ a'.n = 27 ∧ a'.b = b_ ∧ a'.get 0 = .pb ⟨k0q, g0q⟩ 0 0 ∧ a'.get 1 = .int .i64 i_1) ⟨rfl, rfl, rfl, rfl, rfl⟩ ?_
  rintro a0 H0 ⟨rfl, hn0, hn1, e1, e2⟩
  unfold p_bits_Set_Add at h
  have f1 := And.intro hn0 (And.intro hn1 (And.intro e1 (And.intro e2 (And.intro hb0q (And.intro (apF ha0) ((apF ha1)))))))
  refine U_seq ?_
  refine U_reg ?_
  simp only [SB, f1, reduceLT, reduceEqDiff, reduceAdd, reduceLeDiff, reduceMul, Int.reduceEq]
  refine hold_intro ?_
  refine U_seq ?_
  refine U_seq ?_
  refine U_at (fun a' H' => Kp [4] 5 a' a0 ∧ H = H' ∧ Own [k0_1q] H' v0_1q 1 (s_1.words.map (eI .u64))) ⟨by simp only [SB, f1, reduceLT, reduceEqDiff, reduceAdd, reduceLeDiff, reduceMul, Int.reduceEq], rfl, (o0_1q.same (by simp only [SB, f1, reduceLT, reduceEqDiff, reduceAdd, reduceLeDiff, reduceMul, Int.reduceEq]))⟩ ?_
  rintro a1 H1 ⟨kp1, rfl, o2⟩
  obtain ⟨r1, kr1, h⟩ := bndO h
  obtain ⟨b1, kb1, h⟩ := bndO h
  refine U_cut (fun a' H' => H = H' ∧ Kp [] 5 a' a1 ∧ a'.get 13 = .bool b1) ?_ ?_
  · refine U_reg ?_
    rcases Bool.eq_false_or_eq_true ((!r1)) with hb1 | hb1
    ·
      have hx1 := hb1
      rw [if_pos hx1] at kb1
      have hq1 := (Option.some.inj kb1).symm
      simp only [SB, hb1, hq1, f1, KpF kp1, reduceLT, reduceEqDiff, reduceAdd, reduceLeDiff, reduceMul, Int.reduceEq]
      refine callLM (w_bits_Set_in kr1) (.cons (Fz_box (by simp only [SB, f1, KpF kp1, hb1, hq1, reduceLT, reduceEqDiff, reduceAdd, reduceLeDiff, reduceMul, Int.reduceEq] <;> rfl) (.cons (.cl (closed_int _ _)) (.cons (((o2.same (by simp only [SB, f1, KpF kp1, reduceLT, reduceEqDiff, reduceAdd, reduceLeDiff, reduceMul, Int.reduceEq]))).fz (cls (cl_eI .u64) _)) (.nil)))) (.cons (.cl (closed_int _ _)) (.nil))) (flat_bool _) ?_
      simp only [SB, hb1, hq1, f1, KpF kp1, reduceLT, reduceEqDiff, reduceAdd, reduceLeDiff, reduceMul, Int.reduceEq]
      refine hold_intro ?_
      exact ⟨rfl, by simp only [SB, f1, KpF kp1, reduceLT, reduceEqDiff, reduceAdd, reduceLeDiff, reduceMul, Int.reduceEq], by simp only [SB, f1, KpF kp1, hb1, hq1, reduceLT, reduceEqDiff, reduceAdd, reduceLeDiff, reduceMul, Int.reduceEq]⟩
    ·
      have hx2 := hb1
      rw [if_neg (by rw [hx2]; decide)] at kb1
      obtain ⟨r2, kr2, kb1⟩ := bndO kb1
      have hq2 := (Option.some.inj kb1).symm
      simp only [SB, hb1, hq2, f1, KpF kp1, reduceLT, reduceEqDiff, reduceAdd, reduceLeDiff, reduceMul, Int.reduceEq]
      refine callLM (w_bits_Set_in kr1) (.cons (Fz_box (by simp only [SB, f1, KpF kp1, hb1, hq2, reduceLT, reduceEqDiff, reduceAdd, reduceLeDiff, reduceMul, Int.reduceEq] <;> rfl) (.cons (.cl (closed_int _ _)) (.cons (((o2.same (by simp only [SB, f1, KpF kp1, reduceLT, reduceEqDiff, reduceAdd, reduceLeDiff, reduceMul, Int.reduceEq]))).fz (cls (cl_eI .u64) _)) (.nil)))) (.cons (.cl (closed_int _ _)) (.nil))) (flat_bool _) ?_
      simp only [SB, hb1, hq2, f1, KpF kp1, reduceLT, reduceEqDiff, reduceAdd, reduceLeDiff, reduceMul, Int.reduceEq]
      refine callLM (w_bits_Set_Has kr2) (.cons (Fz_box (by simp only [SB, f1, KpF kp1, hb1, hq2, reduceLT, reduceEqDiff, reduceAdd, reduceLeDiff, reduceMul, Int.reduceEq] <;> rfl) (.cons (.cl (closed_int _ _)) (.cons (((o2.same (by simp only [SB, f1, KpF kp1, reduceLT, reduceEqDiff, reduceAdd, reduceLeDiff, reduceMul, Int.reduceEq]))).fz (cls (cl_eI .u64) _)) (.nil)))) (.cons (.cl (closed_int _ _)) (.nil))) (flat_bool _) ?_
      simp only [SB, hb1, hq2, f1, KpF kp1, reduceLT, reduceEqDiff, reduceAdd, reduceLeDiff, reduceMul, Int.reduceEq]
      refine hold_intro ?_
      exact ⟨rfl, by simp only [SB, f1, KpF kp1, reduceLT, reduceEqDiff, reduceAdd, reduceLeDiff, reduceMul, Int.reduceEq], by simp only [SB, f1, KpF kp1, hb1, hq2, reduceLT, reduceEqDiff, reduceAdd, reduceLeDiff, reduceMul, Int.reduceEq]⟩
  · rintro a2 H2 ⟨rfl, kp2, e3⟩
    have f2 := And.intro f1 (And.intro (KpF kp1) (And.intro (KpF kp2) (e3)))
    rcases Bool.eq_false_or_eq_true (b1) with hb2 | hb2
    ·
      rw [if_pos hb2] at h
      refine U_condT (by simp only [SB, f2, hb2, reduceLT, reduceEqDiff, reduceAdd, reduceLeDiff, reduceMul, Int.reduceEq]) ?_
      refine U_seq ?_
      refine U_reg ?_
      simp only [SB, f2, hb2, reduceLT, reduceEqDiff, reduceAdd, reduceLeDiff, reduceMul, Int.reduceEq]
      refine hold_intro ?_
      refine U_ret ?_
      replace h := Option.some.inj h
      obtain ⟨q1, q2⟩ := Prod.mk.inj h
      clear h
      subst q1
      subst q2
      refine ⟨.bool false, by simp only [ires, iress, Try.results87, SB, List.toList_toArray, f2, hb2, reduceLT, reduceEqDiff, reduceAdd, reduceLeDiff, reduceMul, Int.reduceEq], ?_⟩
      exact ⟨rfl, by simp only [SB, f2, hb2, reduceLT, reduceEqDiff, reduceAdd, reduceLeDiff, reduceMul, Int.reduceEq], by simp only [SB, f2, hb2, reduceLT, reduceEqDiff, reduceAdd, reduceLeDiff, reduceMul, Int.reduceEq] <;> rfl, (o2.same (by simp only [SB, f2, hb2, reduceLT, reduceEqDiff, reduceAdd, reduceLeDiff, reduceMul, Int.reduceEq]))⟩
    ·
      rw [if_neg (by rw [hb2]; decide)] at h
      refine U_condF (by simp only [SB, f2, hb2, reduceLT, reduceEqDiff, reduceAdd, reduceLeDiff, reduceMul, Int.reduceEq]) ?_
      refine U_skip ?_
      refine U_seq ?_
      obtain ⟨x1, kx1, h⟩ := bndO h
      obtain ⟨x2, kx2, h⟩ := bndO h
      obtain ⟨l1, kl1, h⟩ := bndO h
      refine U_draw hm false 11 (by decide +kernel) (by decide) ?_
      obtain ⟨w1_i, w1_r, w1_d, w1_f⟩ := Own.at (P := Try.prog) (k := .i64) o2 ty115 rfl ty114 rfl (idx_facts kx1).1 (row_map (f := eI .u64) kx1)
      have w1_1 := fun H1 hs => (w1_f H1 hs).1
      have w1_2 := fun H1 hs => (w1_f H1 hs).2.1
      simp only [SB, ty117, ty115, ty114, w1_1, w1_2, bin_shl' kx2, f2, hb2, reduceLT, reduceEqDiff, reduceAdd, reduceLeDiff, reduceMul, Int.reduceEq]
      refine putK_at w1_f (by simp only [SB, f2, hb2, reduceLT, reduceEqDiff, reduceAdd, reduceLeDiff, reduceMul, Int.reduceEq]) w1_d ty114 rfl rfl (by simp only [SB, ty117, ty115, ty114, w1_1, w1_2, bin_shl' kx2, reduceLT, reduceEqDiff, reduceAdd, reduceLeDiff, reduceMul, Int.reduceEq] <;> decide) (by simp only [SB, ty117, ty115, ty114, w1_1, w1_2, bin_shl' kx2, reduceLT, reduceEqDiff, reduceAdd, reduceLeDiff, reduceMul, Int.reduceEq]) ?_
      intro H3 o3 khH3
      replace o3 := Own.setL (f := eI .u64) kl1 (by simp only [SB, ty117, ty115, ty114, w1_1, w1_2, bin_shl' kx2, reduceLT, reduceEqDiff, reduceAdd, reduceLeDiff, reduceMul, Int.reduceEq] <;> rfl) o3
      simp only [SB, ty117, ty115, ty114, w1_1, w1_2, bin_shl' kx2, f2, hb2, KHF khH3, reduceLT, reduceEqDiff, reduceAdd, reduceLeDiff, reduceMul, Int.reduceEq]
      refine hold_intro ?_
      refine U_seq ?_
      refine U_reg ?_
      simp only [SB, f2, hb2, KHF khH3, reduceLT, reduceEqDiff, reduceAdd, reduceLeDiff, reduceMul, Int.reduceEq]
      refine hold_intro ?_
      refine U_ret ?_
      replace h := Option.some.inj h
      obtain ⟨q3, q4⟩ := Prod.mk.inj h
      clear h
      subst q3
      subst q4
      refine ⟨.bool true, by simp only [ires, iress, Try.results87, SB, List.toList_toArray, f2, hb2, KHF khH3, reduceLT, reduceEqDiff, reduceAdd, reduceLeDiff, reduceMul, Int.reduceEq], ?_⟩
      exact ⟨rfl, by simp only [SB, f2, hb2, KHF khH3, reduceLT, reduceEqDiff, reduceAdd, reduceLeDiff, reduceMul, Int.reduceEq], by simp only [SB, f2, hb2, KHF khH3, reduceLT, reduceEqDiff, reduceAdd, reduceLeDiff, reduceMul, Int.reduceEq] <;> rfl, (o3.same (by simp only [SB, f2, hb2, KHF khH3, reduceLT, reduceEqDiff, reduceAdd, reduceLeDiff, reduceMul, Int.reduceEq]))⟩

theorem w_graph_Graph_post_1 (b_ : Nat) {fuel : Nat} {i_1 : Int} {p_1 : bits_Set} {p_2 : List (A2 Int)} {m1_ : bits_Set} {m2_ : List (A2 Int)} (h : p_graph_Graph_post_1 fuel i_1 p_1 p_2 = some (m1_, m2_)) {k1q g1q : Nat} {k1_0q g1_0q : Nat} {k1_0_1q : Nat} {v1_0_1q : IV} {k2q g2q : Nat} {k2_0q : Nat} {v2_0q : IV} {H : Heap} (ha0 : k1q ∉ [b_ + 10, b_ + 11]) (ha1 : k1_0q ∉ [k1q, b_ + 10, b_ + 11]) (ha2 : k1_0_1q ∉ [k1q, k1_0q, b_ + 10, b_ + 11]) (ha3 : k2q ∉ [k1q, k1_0q, k1_0_1q, b_ + 10, b_ + 11]) (ha4 : k2_0q ∉ [k1q, k1_0q, k1_0_1q, k2q, b_ + 10, b_ + 11]) (hb1q : H.get ⟨k1q, g1q⟩ = some ⟨1, [[.pb ⟨k1_0q, g1_0q⟩ 0 0]]⟩) (hb1_0q : H.get ⟨k1_0q, g1_0q⟩ = some ⟨2, [[.int .i64 p_1.n, v1_0_1q]]⟩) (o1_0_1q : Own [k1_0_1q] H v1_0_1q 1 (p_1.words.map (eI .u64))) (hb2q : H.get ⟨k2q, g2q⟩ = some ⟨1, [[v2_0q]]⟩) (o2_0q : Own [k2_0q] H v2_0q 2 (p_2.map (eA2 eInt))) : CallW Try.prog 132 [.int .i64 i_1, .pb ⟨k1q, g1q⟩ 0 0, .pb ⟨k2q, g2q⟩ 0 0] H (fun rv H' => ∃ v2_0qn : IV, rv = (.tup [] : IV) ∧ KH [b_ + 10, b_ + 11, k1q, k1_0q, k1_0_1q, k2q, k2_0q] H' H ∧ H'.get ⟨k1q, g1q⟩ = some ⟨1, [[.pb ⟨k1_0q, g1_0q⟩ 0 0]]⟩ ∧ H'.get ⟨k1_0q, g1_0q⟩ = some ⟨2, [[.int .i64 m1_.n, v1_0_1q]]⟩ ∧ Own [k1_0_1q] H' v1_0_1q 1 (m1_.words.map (eI .u64)) ∧ H'.get ⟨k2q, g2q⟩ = some ⟨1, [[v2_0qn]]⟩ ∧ Own [b_ + 11, k2_0q] H' v2_0qn 2 (m2_.map (eA2 eInt))) := by
  refine U_call b_ Try.func132 rfl (by kernel_rfl) (by simp [Try.ntmps132]) ?_
  rw [Try.ntmps132]
  refine U_at (fun a' H' => H = H' ∧ a'.n = 12 ∧ a'.b = b_ ∧ a'.get 0 = .int .i64 i_1 ∧ a'.get 1 = .pb ⟨k1q, g1q⟩ 0 0 ∧ a'.get 2 = .pb ⟨k2q, g2q⟩ 0 0) ⟨rfl, rfl, rfl, rfl, rfl, rfl⟩ ?_
  rintro a0 H0 ⟨rfl, hn0, hn1, e1, e2, e3⟩
  unfold p_graph_Graph_post_1 at h
  have f1 := And.intro hn0 (And.intro hn1 (And.intro e1 (And.intro e2 (And.intro e3 (And.intro hb1q (And.intro hb1_0q (And.intro hb2q (And.intro (apF ha0) (And.intro (apF ha1) (And.intro (apF ha2) (And.intro (apF ha3) ((apF ha4)))))))))))))
  refine U_seq ?_
  obtain ⟨⟨r1, m1⟩, kr1, h⟩ := bndO h
  dsimp only at h
  refine U_reg ?_
  simp only [SB, ty44, f1, reduceLT, reduceEqDiff, reduceAdd, reduceLeDiff, reduceMul, Int.reduceEq]
  refine callH (w_bits_Set_Add (b_ + 22) (k0q := k1_0q) (g0q := g1_0q) (k0_1q := k1_0_1q) (v0_1q := v1_0_1q) kr1 (by simp only [SB, f1, reduceLT, reduceEqDiff, reduceAdd, reduceLeDiff, reduceMul, Int.reduceEq]) (by simp only [SB, f1, reduceLT, reduceEqDiff, reduceAdd, reduceLeDiff, reduceMul, Int.reduceEq]) (by simp only [SB, ty44, f1, reduceLT, reduceEqDiff, reduceAdd, reduceLeDiff, reduceMul, Int.reduceEq] <;> rfl) (o1_0_1q.same (by simp only [SB, f1, reduceLT, reduceEqDiff, reduceAdd, reduceLeDiff, reduceMul, Int.reduceEq]))) ?_
  rintro rv1 H1 ⟨rfl, kh1, hb1, o1⟩
  try simp only [Nat.add_assoc, reduceAdd] at kh1 hb1 o1
  try simp only [Nat.add_assoc, reduceAdd]
  simp only [SB, ty44, f1, KHF kh1, hb1, reduceLT, reduceEqDiff, reduceAdd, reduceLeDiff, reduceMul, Int.reduceEq]
  refine hold_intro ?_
  rcases Bool.eq_false_or_eq_true (r1) with hb2 | hb2
  ·
    rw [if_pos hb2] at h
    refine U_condT (by simp only [SB, f1, KHF kh1, hb1, hb2, ty44, reduceLT, reduceEqDiff, reduceAdd, reduceLeDiff, reduceMul, Int.reduceEq]) ?_
    obtain ⟨l1, kl1, h⟩ := bndO h
    refine U_reg ?_
    simp only [SB, ty34, ty41, ty3, fk41, f1, KHF kh1, hb1, hb2, reduceLT, reduceEqDiff, reduceAdd, reduceLeDiff, reduceMul, Int.reduceEq]
    refine Own.appL (f := eA2 eInt) (xs := p_2) (ys := [(⟨i_1, 0⟩ : A2 Int)]) (D := [b_ + 11, k2_0q]) (Own.sub (o2_0q.same (by simp only [SB, f1, KHF kh1, hb1, hb2, reduceLT, reduceEqDiff, reduceAdd, reduceLeDiff, reduceMul, Int.reduceEq])) (by simp only [SB, reduceEqDiff])) (by simp only [put_b, f1, KHF kh1, hb1, hb2, reduceLT, reduceEqDiff, reduceAdd, reduceLeDiff, reduceMul, Int.reduceEq]) (by simp only [SB, reduceEqDiff]) ty34 rfl ty34 rfl ty41 rfl rfl rfl (by decide) (by simp only [srows_sb, SB, ty34, ty41, ty3, fk41, f1, KHF kh1, hb1, hb2, reduceLT, reduceEqDiff, reduceAdd, reduceLeDiff, reduceMul, Int.reduceEq] <;> rfl) (cl_eA2 cl_eInt) kl1 ?_
    intro v2 H2 o3 kh2
    simp only [SB, ty34, ty41, ty3, fk41, Own.cf o3, f1, KHF kh1, hb1, hb2, KHF kh2, reduceLT, reduceEqDiff, reduceAdd, reduceLeDiff, reduceMul, Int.reduceEq]
    refine hold_intro ?_
    replace h := Option.some.inj h
    obtain ⟨q1, q2⟩ := Prod.mk.inj h
    clear h
    subst q1
    subst q2
    refine ⟨.tup [], by simp only [ires, iress, Try.results132, SB, List.toList_toArray, ty34, ty41, ty3, fk41, Own.cf o3, f1, KHF kh1, hb1, hb2, KHF kh2, reduceLT, reduceEqDiff, reduceAdd, reduceLeDiff, reduceMul, Int.reduceEq], ?_⟩
    exact ⟨v2, rfl, by simp only [SB, f1, KHF kh1, hb1, hb2, KHF kh2, reduceLT, reduceEqDiff, reduceAdd, reduceLeDiff, reduceMul, Int.reduceEq], by simp only [SB, f1, KHF kh1, hb1, hb2, KHF kh2, ty34, ty41, ty3, fk41, Own.cf o3, reduceLT, reduceEqDiff, reduceAdd, reduceLeDiff, reduceMul, Int.reduceEq] <;> rfl, by simp only [SB, f1, KHF kh1, hb1, hb2, KHF kh2, ty34, ty41, ty3, fk41, Own.cf o3, reduceLT, reduceEqDiff, reduceAdd, reduceLeDiff, reduceMul, Int.reduceEq] <;> rfl, (o1.same (by simp only [SB, f1, KHF kh1, hb1, hb2, KHF kh2, reduceLT, reduceEqDiff, reduceAdd, reduceLeDiff, reduceMul, Int.reduceEq])), by simp only [SB, f1, KHF kh1, hb1, hb2, KHF kh2, ty34, ty41, ty3, fk41, Own.cf o3, reduceLT, reduceEqDiff, reduceAdd, reduceLeDiff, reduceMul, Int.reduceEq] <;> rfl, (Own.sub (o3.same (by simp only [SB, f1, KHF kh1, hb1, hb2, KHF kh2, reduceLT, reduceEqDiff, reduceAdd, reduceLeDiff, reduceMul, Int.reduceEq])) (by simp only [SB, reduceEqDiff]))⟩
  ·
    rw [if_neg (by rw [hb2]; decide)] at h
    refine U_condF (by simp only [SB, f1, KHF kh1, hb1, hb2, ty44, reduceLT, reduceEqDiff, reduceAdd, reduceLeDiff, reduceMul, Int.reduceEq]) ?_
    refine U_skip ?_
    replace h := Option.some.inj h
    obtain ⟨q3, q4⟩ := Prod.mk.inj h
    clear h
    subst q3
    subst q4
    refine ⟨.tup [], by simp only [ires, iress, Try.results132, SB, List.toList_toArray, ty44, f1, KHF kh1, hb1, hb2, reduceLT, reduceEqDiff, reduceAdd, reduceLeDiff, reduceMul, Int.reduceEq], ?_⟩
    exact ⟨v2_0q, rfl, by simp only [SB, f1, KHF kh1, hb1, hb2, reduceLT, reduceEqDiff, reduceAdd, reduceLeDiff, reduceMul, Int.reduceEq], by simp only [SB, f1, KHF kh1, hb1, hb2, ty44, reduceLT, reduceEqDiff, reduceAdd, reduceLeDiff, reduceMul, Int.reduceEq] <;> rfl, by simp only [SB, f1, KHF kh1, hb1, hb2, ty44, reduceLT, reduceEqDiff, reduceAdd, reduceLeDiff, reduceMul, Int.reduceEq] <;> rfl, (o1.same (by simp only [SB, f1, KHF kh1, hb1, hb2, reduceLT, reduceEqDiff, reduceAdd, reduceLeDiff, reduceMul, Int.reduceEq])), by simp only [SB, f1, KHF kh1, hb1, hb2, ty44, reduceLT, reduceEqDiff, reduceAdd, reduceLeDiff, reduceMul, Int.reduceEq] <;> rfl, (Own.sub (o2_0q.same (by simp only [SB, f1, KHF kh1, hb1, hb2, reduceLT, reduceEqDiff, reduceAdd, reduceLeDiff, reduceMul, Int.reduceEq])) (by simp only [SB, reduceEqDiff]))⟩

theorem w_bits_New_own0 (b_ : Nat) {fuel : Nat} {nv_1 : Int} {r0_ : bits_Set} (h : p_bits_New fuel nv_1 = some r0_)  {H : Heap}   : CallW Try.prog 85 [.int .i64 nv_1] H (fun rv H' => ∃ g0_ : Nat, ∃ w0_1_ : IV, rv = (.pb ⟨b_ + 12, g0_⟩ 0 0 : IV) ∧ KH [b_ + 10, b_ + 12] H' H ∧ H'.get ⟨b_ + 12, g0_⟩ = some ⟨2, [[.int .i64 r0_.n, w0_1_]]⟩ ∧ Own [b_ + 10] H' w0_1_ 1 (r0_.words.map (eI .u64))) := by
  refine U_call b_ Try.func85 rfl (by kernel_rfl) (by simp [Try.ntmps85]) ?_
  rw [Try.ntmps85]
  refine U_at (fun a' H' => H = H' ∧ a'.n = 13 ∧ a'.b = b_ ∧ a'.get 0 = .int .i64 nv_1) ⟨rfl, rfl, rfl, rfl⟩ ?_
  rintro a0 H0 ⟨rfl, hn0, hn1, e1⟩
  unfold p_bits_New at h
  have f1 := And.intro hn0 (And.intro hn1 (e1))
  refine U_seq ?_
  refine U_reg ?_
  simp only [SB, f1, reduceLT, reduceEqDiff, reduceAdd, reduceLeDiff, reduceMul, Int.reduceEq]
  refine hold_intro ?_
  refine U_seq ?_
  refine U_reg ?_
  simp only [SB, f1, reduceLT, reduceEqDiff, reduceAdd, reduceLeDiff, reduceMul, Int.reduceEq]
  refine hold_intro ?_
  refine U_seq ?_
  obtain ⟨l1, kl1, h⟩ := bndO h
  refine U_reg ?_
  simp only [SB, ty115, ty114, imk_some (d := b_ + 10) (f := eI .u64) ty115 rfl ty114 rfl rfl (by decide) kl1, ty117, fk117, f1, reduceLT, reduceEqDiff, reduceAdd, reduceLeDiff, reduceMul, Int.reduceEq]
  refine hold_intro ?_
  refine U_at (fun a' H' => Kp [0, 2] 3 a' a0 ∧ KH [b_ + 10, b_ + 12] H' H ∧ a'.get 2 = .pb ⟨b_ + 12, H.next (b_ + 12)⟩ 0 0 ∧ Own [b_ + 10] H' (.sb ⟨b_ + 10, H.next (b_ + 10)⟩ 0 l1.length true) 1 (l1.map (eI .u64)) ∧ H'.get ⟨b_ + 12, H.next (b_ + 12)⟩ = some ⟨2, [[.int .i64 (if 0 > nv_1 then 0 else nv_1), .sb ⟨b_ + 10, H.next (b_ + 10)⟩ 0 l1.length true]]⟩) ⟨by simp only [SB, f1, reduceLT, reduceEqDiff, reduceAdd, reduceLeDiff, reduceMul, Int.reduceEq], by simp only [SB, f1, reduceLT, reduceEqDiff, reduceAdd, reduceLeDiff, reduceMul, Int.reduceEq], by simp only [SB, f1, ty115, ty114, imk_some (d := b_ + 10) (f := eI .u64) ty115 rfl ty114 rfl rfl (by decide) kl1, ty117, fk117, reduceLT, reduceEqDiff, reduceAdd, reduceLeDiff, reduceMul, Int.reduceEq], (Own.mk (id := ⟨b_ + 10, H.next (b_ + 10)⟩) (by simp only [SB, reduceEqDiff]) (by simp only [SB]) (by simp only [SB, f1, reduceLT, reduceEqDiff, reduceAdd, reduceLeDiff, reduceMul, Int.reduceEq] <;> rfl)), by simp only [SB, f1, ty115, ty114, imk_some (d := b_ + 10) (f := eI .u64) ty115 rfl ty114 rfl rfl (by decide) kl1, ty117, fk117, reduceLT, reduceEqDiff, reduceAdd, reduceLeDiff, reduceMul, Int.reduceEq] <;> rfl⟩ ?_
  rintro a1 H1 ⟨kp1, kh1, e2, o2, e3⟩
  have f2 := And.intro f1 (And.intro (KpF kp1) (And.intro (KHF kh1) (And.intro e2 (e3))))
  refine U_ret ?_
  replace h := Option.some.inj h
  subst h
  refine ⟨.pb ⟨b_ + 12, H.next (b_ + 12)⟩ 0 0, by simp only [ires, iress, Try.results85, SB, List.toList_toArray, ty115, ty114, imk_some (d := b_ + 10) (f := eI .u64) ty115 rfl ty114 rfl rfl (by decide) kl1, ty117, fk117, f2, reduceLT, reduceEqDiff, reduceAdd, reduceLeDiff, reduceMul, Int.reduceEq], ?_⟩
  exact ⟨H.next (b_ + 12), .sb ⟨b_ + 10, H.next (b_ + 10)⟩ 0 l1.length true, rfl, by simp only [SB, f2, reduceLT, reduceEqDiff, reduceAdd, reduceLeDiff, reduceMul, Int.reduceEq], by simp only [SB, f2, ty115, ty114, imk_some (d := b_ + 10) (f := eI .u64) ty115 rfl ty114 rfl rfl (by decide) kl1, ty117, fk117, reduceLT, reduceEqDiff, reduceAdd, reduceLeDiff, reduceMul, Int.reduceEq] <;> rfl, (Own.sub (D := [b_ + 10]) (o2.same (by simp only [SB, f2, reduceLT, reduceEqDiff, reduceAdd, reduceLeDiff, reduceMul, Int.reduceEq])) (by simp only [SB, reduceEqDiff]))⟩

theorem w_graph_Graph_post {fuel : Nat} {g_1 : graph_Graph} {r0_ : List Int} (h : p_graph_Graph_post fuel g_1 = some r0_) : Pure1 Try.prog 82 [.pim [egraph_Graph g_1] 0 0] (.sim (r0_.map eInt) false) := by
  refine Pure1_fz (all_cl (cl_pim1 cl_egraph_Graph _) all_cl0) ?_
  refine U_call 0 Try.func82 rfl (by kernel_rfl) (by simp [Try.ntmps82]) ?_
  rw [Try.ntmps82]
  refine U_at (fun a' H' => a'.n = 71 ∧ a'.b = 0 ∧ a'.get 0 = .pim [egraph_Graph g_1] 0 0) ⟨rfl, rfl, rfl⟩ ?_
  rintro a0 H0 ⟨hn0, hn1, e1⟩
  unfold p_graph_Graph_post at h
  have f1 := And.intro hn0 (And.intro hn1 (e1))
  refine U_seq ?_
  refine U_reg ?_
  simp only [SB, f1, reduceLT, reduceEqDiff, reduceAdd, reduceLeDiff, reduceMul, Int.reduceEq]
  refine hold_intro ?_
  refine U_seq ?_
  obtain ⟨r1, kr1, h⟩ := bndO h
  obtain ⟨r2, kr2, h⟩ := bndO h
  refine U_reg ?_
  simp only [SB, f1, reduceLT, reduceEqDiff, reduceAdd, reduceLeDiff, reduceMul, Int.reduceEq]
  refine callP (w_graph_Graph_Len kr1) ?_
  simp only [SB, f1, reduceLT, reduceEqDiff, reduceAdd, reduceLeDiff, reduceMul, Int.reduceEq]
  refine callH (w_bits_New_own0 (81)  kr2  ) ?_
  rintro rv1 H1 ⟨g1, v1, rfl, kh1, hb1, o1⟩
  try simp only [Nat.add_assoc, reduceAdd] at kh1 hb1 o1
  try simp only [Nat.add_assoc, reduceAdd]
  simp only [SB, ty44, f1, KHF kh1, hb1, reduceLT, reduceEqDiff, reduceAdd, reduceLeDiff, reduceMul, Int.reduceEq]
  refine hold_intro ?_
  refine U_seq ?_
  refine U_reg ?_
  simp only [SB, f1, KHF kh1, hb1, reduceLT, reduceEqDiff, reduceAdd, reduceLeDiff, reduceMul, Int.reduceEq]
  refine hold_intro ?_
  refine U_seq ?_
  refine U_reg ?_
  simp only [SB, ty34, f1, KHF kh1, hb1, reduceLT, reduceEqDiff, reduceAdd, reduceLeDiff, reduceMul, Int.reduceEq]
  refine hold_intro ?_
  refine U_seq ?_
  refine U_reg ?_
  simp only [SB, f1, KHF kh1, hb1, reduceLT, reduceEqDiff, reduceAdd, reduceLeDiff, reduceMul, Int.reduceEq]
  refine hold_intro ?_
  refine U_seq ?_
  obtain ⟨⟨m1, m2⟩, km1, h⟩ := bndO h
  dsimp only at h
  refine U_reg ?_
  simp only [SB, f1, KHF kh1, hb1, reduceLT, reduceEqDiff, reduceAdd, reduceLeDiff, reduceMul, Int.reduceEq]
  refine callH (w_graph_Graph_post_1 (114) (k1q := 3) (g1q := H1.next (3)) (k1_0q := 93) (g1_0q := g1) (k1_0_1q := 91) (v1_0_1q := v1) (k2q := 5) (g2q := H1.next (5)) (k2_0q := 193) (v2_0q := .nils) km1 (by simp only [SB, f1, KHF kh1, hb1, reduceLT, reduceEqDiff, reduceAdd, reduceLeDiff, reduceMul, Int.reduceEq]) (by simp only [SB, f1, KHF kh1, hb1, reduceLT, reduceEqDiff, reduceAdd, reduceLeDiff, reduceMul, Int.reduceEq]) (by simp only [SB, f1, KHF kh1, hb1, reduceLT, reduceEqDiff, reduceAdd, reduceLeDiff, reduceMul, Int.reduceEq]) (by simp only [SB, f1, KHF kh1, hb1, reduceLT, reduceEqDiff, reduceAdd, reduceLeDiff, reduceMul, Int.reduceEq]) (by simp only [SB, f1, KHF kh1, hb1, reduceLT, reduceEqDiff, reduceAdd, reduceLeDiff, reduceMul, Int.reduceEq]) (by simp only [SB, f1, KHF kh1, hb1, reduceLT, reduceEqDiff, reduceAdd, reduceLeDiff, reduceMul, Int.reduceEq] <;> rfl) (by simp only [SB, f1, KHF kh1, hb1, reduceLT, reduceEqDiff, reduceAdd, reduceLeDiff, reduceMul, Int.reduceEq] <;> rfl) (o1.same (by simp only [SB, f1, KHF kh1, hb1, reduceLT, reduceEqDiff, reduceAdd, reduceLeDiff, reduceMul, Int.reduceEq])) (by simp only [SB, f1, KHF kh1, hb1, reduceLT, reduceEqDiff, reduceAdd, reduceLeDiff, reduceMul, Int.reduceEq] <;> rfl) Own.nil) ?_
  rintro rv2 H2 ⟨v3, rfl, kh2, hb3, hb2, o2, hb4, o3⟩
  try simp only [Nat.add_assoc, reduceAdd] at kh2 hb3 hb2 o2 hb4 o3
  try simp only [Nat.add_assoc, reduceAdd]
  simp only [SB, f1, KHF kh1, hb1, KHF kh2, hb3, hb2, hb4, reduceLT, reduceEqDiff, reduceAdd, reduceLeDiff, reduceMul, Int.reduceEq]
  refine hold_intro ?_
  refine U_seq ?_
  refine U_at (fun a' H' => Kp [2, 3, 4, 5, 6] 10 a' a0 ∧ KH [124, 125, 193, 3, 5, 91, 93] H' H0 ∧ a'.get 4 = .nils ∧ a'.get 5 = .pb ⟨5, H1.next (5)⟩ 0 0 ∧ a'.get 6 = .fn (.func 132) [] [.pb ⟨3, H1.next (3)⟩ 0 0, .pb ⟨5, H1.next (5)⟩ 0 0] ∧ H'.get ⟨3, H1.next (3)⟩ = some ⟨1, [[.pb ⟨93, g1⟩ 0 0]]⟩ ∧ Own [125, 193] H' v3 2 (m2.map (eA2 eInt)) ∧ H'.get ⟨5, H1.next (5)⟩ = some ⟨1, [[v3]]⟩ ∧ Own [91] H' v1 1 (m1.words.map (eI .u64)) ∧ H'.get ⟨93, g1⟩ = some ⟨2, [[.int .i64 m1.n, v1]]⟩) ⟨by simp only [SB, f1, KHF kh1, hb1, KHF kh2, hb3, hb2, hb4, reduceLT, reduceEqDiff, reduceAdd, reduceLeDiff, reduceMul, Int.reduceEq], by simp only [SB, f1, KHF kh1, hb1, KHF kh2, hb3, hb2, hb4, reduceLT, reduceEqDiff, reduceAdd, reduceLeDiff, reduceMul, Int.reduceEq], by simp only [SB, f1, KHF kh1, hb1, KHF kh2, hb3, hb2, hb4, reduceLT, reduceEqDiff, reduceAdd, reduceLeDiff, reduceMul, Int.reduceEq], by simp only [SB, f1, KHF kh1, hb1, KHF kh2, hb3, hb2, hb4, reduceLT, reduceEqDiff, reduceAdd, reduceLeDiff, reduceMul, Int.reduceEq], by simp only [SB, f1, KHF kh1, hb1, KHF kh2, hb3, hb2, hb4, reduceLT, reduceEqDiff, reduceAdd, reduceLeDiff, reduceMul, Int.reduceEq], by simp only [SB, f1, KHF kh1, hb1, KHF kh2, hb3, hb2, hb4, reduceLT, reduceEqDiff, reduceAdd, reduceLeDiff, reduceMul, Int.reduceEq] <;> rfl, (o3.same (by simp only [SB, f1, KHF kh1, hb1, KHF kh2, hb3, hb2, hb4, reduceLT, reduceEqDiff, reduceAdd, reduceLeDiff, reduceMul, Int.reduceEq])), by simp only [SB, f1, KHF kh1, hb1, KHF kh2, hb3, hb2, hb4, reduceLT, reduceEqDiff, reduceAdd, reduceLeDiff, reduceMul, Int.reduceEq] <;> rfl, (o2.same (by simp only [SB, f1, KHF kh1, hb1, KHF kh2, hb3, hb2, hb4, reduceLT, reduceEqDiff, reduceAdd, reduceLeDiff, reduceMul, Int.reduceEq])), by simp only [SB, f1, KHF kh1, hb1, KHF kh2, hb3, hb2, hb4, reduceLT, reduceEqDiff, reduceAdd, reduceLeDiff, reduceMul, Int.reduceEq] <;> rfl⟩ ?_
  rintro a1 H3 ⟨kp1, kh3, e2, e3, e4, e5, o5, e6, o7, e7⟩
  have f2 := And.intro f1 (And.intro (KHF kh1) (And.intro hb1 (And.intro (KHF kh2) (And.intro hb3 (And.intro hb2 (And.intro hb4 (And.intro (KpF kp1) (And.intro (KHF kh3) (And.intro e2 (And.intro e3 (And.intro e4 (And.intro e5 (And.intro e6 (e7))))))))))))))
  obtain ⟨u1, he1, h⟩ := bndE h
  refine U_cut (fun a' H' => ∃ c4 : Int, ∃ c5 : List Int, ∃ c6 : List (A2 Int), ∃ out_2 : List Int, u1 = .n (c4, c5, c6, out_2) ∧ ∃ v4, ∃ v5, Kp [4, 7, 8, 9] 10 a' a1 ∧ KH [125, 193, 204, 205, 273, 3, 49, 5, 50, 91, 93] H' H3 ∧ Own [91] H' v1 1 (c5.map (eI .u64)) ∧ Own [125, 193, 205, 273] H' v4 2 (c6.map (eA2 eInt)) ∧ Own [50] H' v5 1 (out_2.map eInt) ∧ a'.get 4 = v5 ∧ H'.get ⟨3, H1.next (3)⟩ = some ⟨1, [[.pb ⟨93, g1⟩ 0 0]]⟩ ∧ H'.get ⟨5, H1.next (5)⟩ = some ⟨1, [[v4]]⟩ ∧ H'.get ⟨93, g1⟩ = some ⟨2, [[.int .i64 c4, v1]]⟩) (U_block (U_loop (fun y a' H' => match y with | (m3, c4, c5, c6, out_2) => loopE m3 (fun s => p_graph_Graph_post_b1 fuel g_1 s.1 s.2.1 s.2.2.1 s.2.2.2) (c4, c5, c6, out_2) = some u1 ∧ ∃ v4, ∃ v5, Kp [4, 7, 8, 9] 10 a' a1 ∧ KH [125, 193, 204, 205, 273, 3, 49, 5, 50, 91, 93] H' H3 ∧ Own [91] H' v1 1 (c5.map (eI .u64)) ∧ Own [125, 193, 205, 273] H' v4 2 (c6.map (eA2 eInt)) ∧ Own [50] H' v5 1 (out_2.map eInt) ∧ a'.get 4 = v5 ∧ H'.get ⟨3, H1.next (3)⟩ = some ⟨1, [[.pb ⟨93, g1⟩ 0 0]]⟩ ∧ H'.get ⟨5, H1.next (5)⟩ = some ⟨1, [[v4]]⟩ ∧ H'.get ⟨93, g1⟩ = some ⟨2, [[.int .i64 c4, v1]]⟩ : (Nat × Int × (List Int) × (List (A2 Int)) × (List Int)) → Fr → Heap → Prop) (fun y : Nat × Int × (List Int) × (List (A2 Int)) × (List Int) => y.1) (fuel, m1.n, m1.words, m2, []) ?_ ?_)) ?_
  · exact ⟨he1, _, _, by simp only [SB, f2, reduceLT, reduceEqDiff, reduceAdd, reduceLeDiff, reduceMul, Int.reduceEq], by simp only [SB, f2, reduceLT, reduceEqDiff, reduceAdd, reduceLeDiff, reduceMul, Int.reduceEq], (o7.same (by simp only [SB, f2, reduceLT, reduceEqDiff, reduceAdd, reduceLeDiff, reduceMul, Int.reduceEq])), (Own.sub (o5.same (by simp only [SB, f2, reduceLT, reduceEqDiff, reduceAdd, reduceLeDiff, reduceMul, Int.reduceEq])) (by simp only [SB, reduceEqDiff])), Own.nil, by simp only [SB, f2, reduceLT, reduceEqDiff, reduceAdd, reduceLeDiff, reduceMul, Int.reduceEq], by simp only [SB, f2, reduceLT, reduceEqDiff, reduceAdd, reduceLeDiff, reduceMul, Int.reduceEq] <;> rfl, by simp only [SB, f2, reduceLT, reduceEqDiff, reduceAdd, reduceLeDiff, reduceMul, Int.reduceEq] <;> rfl, by simp only [SB, f2, reduceLT, reduceEqDiff, reduceAdd, reduceLeDiff, reduceMul, Int.reduceEq] <;> rfl⟩
  ·
    rintro ⟨m3, c4, c5, c6, out_2⟩ a2 H4 ⟨hf2, v4, v5, kp2, kh4, o8, o9, o10, e8, e9, e10, e11⟩
    obtain ⟨m3', m3_lt, u2, hr1, hl2⟩ := loopE_step hf2
    replace hr1 : p_graph_Graph_post_b1 fuel g_1 c4 c5 c6 out_2 = some u2 := hr1
    unfold p_graph_Graph_post_b1 at hr1
    have f3 := And.intro f2 (And.intro e8 (And.intro e9 (And.intro e10 (And.intro e11 (And.intro (KpF kp2) ((KHF kh4)))))))
    refine U_seq ?_
    refine U_seq ?_
    refine U_reg ?_
    simp only [SB, ty34, Own.len (P := Try.prog) o9 ty34 rfl, f3, reduceLT, reduceEqDiff, reduceAdd, reduceLeDiff, reduceMul, Int.reduceEq]
    refine hold_intro ?_
    rcases Bool.eq_false_or_eq_true (decide (0 < (c6.length : Int))) with hb5 | hb5
    ·
      rw [if_pos hb5] at hr1
      refine U_condT (by simp only [SB, f3, hb5, ty34, Own.len (P := Try.prog) o9 ty34 rfl, reduceLT, reduceEqDiff, reduceAdd, reduceLeDiff, reduceMul, Int.reduceEq]) ?_
      refine U_skip ?_
      refine U_block ?_
      refine U_seq ?_
      obtain ⟨x1, kx1, hr1⟩ := bndO hr1
      refine U_reg ?_
      obtain ⟨w1_i, w1_r, w1_d, w1_f⟩ := Own.at (P := Try.prog) (k := .i64) o9 ty34 rfl ty41 rfl (idx_facts kx1).1 (row_map (f := eA2 eInt) kx1)
      have w1_1 := fun H1 hs => (w1_f H1 hs).1
      have w1_2 := fun H1 hs => (w1_f H1 hs).2.1
      simp only [SB, ty34, Own.len (P := Try.prog) o9 ty34 rfl, ty41, w1_1, w1_2, sA41, f3, hb5, reduceLT, reduceEqDiff, reduceAdd, reduceLeDiff, reduceMul, Int.reduceEq]
      refine hold_intro ?_
      refine U_seq ?_
      refine U_draw hm false 9 (by decide +kernel) (by decide) ?_
      simp only [SB, ty41, ty3, iia_arr (P := Try.prog) (j := 0) (m := 0) ty41 rfl ty3 (by decide) rfl, w1_2, sA41, iia_arr (P := Try.prog) (j := 1) (m := 1) ty41 rfl ty3 (by decide) rfl, f3, hb5, reduceLT, reduceEqDiff, reduceAdd, reduceLeDiff, reduceMul, Int.reduceEq]
      refine hold_intro ?_
      refine U_seq ?_
      refine U_seq ?_
      obtain ⟨x2, kx2, hr1⟩ := bndO hr1
      refine U_reg ?_
      simp only [SB, ty108, ty31, sgraph_Graph, ty37, iia_sim (f := eS eInt) ty31 rfl ty37 kx2 rfl, row_sim (f := eS eInt) kx2, len_sim ty37 rfl, f3, hb5, reduceLT, reduceEqDiff, reduceAdd, reduceLeDiff, reduceMul, Int.reduceEq]
      refine hold_intro ?_
      rcases Bool.eq_false_or_eq_true (decide (x1.a1 = (x2.length : Int))) with hb6 | hb6
      ·
        rw [if_pos hb6] at hr1
        refine U_condT (by simp only [SB, f3, hb5, hb6, ty108, ty31, sgraph_Graph, ty37, iia_sim (f := eS eInt) ty31 rfl ty37 kx2 rfl, row_sim (f := eS eInt) kx2, len_sim ty37 rfl, reduceLT, reduceEqDiff, reduceAdd, reduceLeDiff, reduceMul, Int.reduceEq]) ?_
        refine U_seq ?_
        obtain ⟨l1, kl1, hr1⟩ := bndO hr1
        refine U_reg ?_
        obtain ⟨v6, v6_f, o11⟩ := Own.sliL (f := eA2 eInt) o9 ty34 rfl ty41 rfl (bnds0 kl1) kl1
        simp only [SB, ty34, Own.len (P := Try.prog) o9 ty34 rfl, v6_f, Own.cf o11, f3, hb5, hb6, reduceLT, reduceEqDiff, reduceAdd, reduceLeDiff, reduceMul, Int.reduceEq]
        refine hold_intro ?_
        refine U_seq ?_
        obtain ⟨l2, kl2, hr1⟩ := bndO hr1
        refine U_reg ?_
        simp only [SB, ty37, ty3, f3, hb5, hb6, reduceLT, reduceEqDiff, reduceAdd, reduceLeDiff, reduceMul, Int.reduceEq]
        refine Own.appL (f := eInt) (xs := out_2) (ys := [x1.a0]) (D := [50]) (Own.sub (o10.same (by simp only [SB, f3, hb5, hb6, reduceLT, reduceEqDiff, reduceAdd, reduceLeDiff, reduceMul, Int.reduceEq])) (by simp only [SB, reduceEqDiff])) (by simp only [put_b, f3, hb5, hb6, reduceLT, reduceEqDiff, reduceAdd, reduceLeDiff, reduceMul, Int.reduceEq]) (by simp only [SB, reduceEqDiff]) ty37 rfl ty37 rfl ty3 rfl rfl rfl (by decide) (by simp only [srows_sb, SB, ty37, ty3, f3, hb5, hb6, reduceLT, reduceEqDiff, reduceAdd, reduceLeDiff, reduceMul, Int.reduceEq] <;> rfl) cl_eInt kl2 ?_
        intro v7 H5 o13 kh5
        simp only [SB, ty37, ty3, f3, hb5, hb6, KHF kh5, reduceLT, reduceEqDiff, reduceAdd, reduceLeDiff, reduceMul, Int.reduceEq]
        refine hold_intro ?_
        refine U_exit rfl ?_
        replace hr1 := Option.some.inj hr1
        subst hr1
        exact ⟨(m3', c4, c5, l1, l2), m3_lt, hl2, _, _, by simp only [SB, f3, hb5, hb6, KHF kh5, reduceLT, reduceEqDiff, reduceAdd, reduceLeDiff, reduceMul, Int.reduceEq], by simp only [SB, f3, hb5, hb6, KHF kh5, reduceLT, reduceEqDiff, reduceAdd, reduceLeDiff, reduceMul, Int.reduceEq], (o8.same (by simp only [SB, f3, hb5, hb6, KHF kh5, reduceLT, reduceEqDiff, reduceAdd, reduceLeDiff, reduceMul, Int.reduceEq])), (o11.same (by simp only [SB, f3, hb5, hb6, KHF kh5, reduceLT, reduceEqDiff, reduceAdd, reduceLeDiff, reduceMul, Int.reduceEq])), (o13.same (by simp only [SB, f3, hb5, hb6, KHF kh5, reduceLT, reduceEqDiff, reduceAdd, reduceLeDiff, reduceMul, Int.reduceEq])), by simp only [SB, f3, hb5, hb6, KHF kh5, ty37, ty3, reduceLT, reduceEqDiff, reduceAdd, reduceLeDiff, reduceMul, Int.reduceEq], by simp only [SB, f3, hb5, hb6, KHF kh5, ty37, ty3, reduceLT, reduceEqDiff, reduceAdd, reduceLeDiff, reduceMul, Int.reduceEq] <;> rfl, by simp only [SB, f3, hb5, hb6, KHF kh5, ty37, ty3, reduceLT, reduceEqDiff, reduceAdd, reduceLeDiff, reduceMul, Int.reduceEq] <;> rfl, by simp only [SB, f3, hb5, hb6, KHF kh5, ty37, ty3, reduceLT, reduceEqDiff, reduceAdd, reduceLeDiff, reduceMul, Int.reduceEq] <;> rfl⟩
      ·
        rw [if_neg (by rw [hb6]; decide)] at hr1
        refine U_condF (by simp only [SB, f3, hb5, hb6, ty108, ty31, sgraph_Graph, ty37, iia_sim (f := eS eInt) ty31 rfl ty37 kx2 rfl, row_sim (f := eS eInt) kx2, len_sim ty37 rfl, reduceLT, reduceEqDiff, reduceAdd, reduceLeDiff, reduceMul, Int.reduceEq]) ?_
        refine U_skip ?_
        refine U_seq ?_
        obtain ⟨l3, kl3, hr1⟩ := bndO hr1
        refine U_draw hm false 6 (by decide +kernel) (by decide) ?_
        simp only [SB, ty41, ty3, iia_arr (P := Try.prog) (j := 1) (m := 1) ty41 rfl ty3 (by decide) rfl, w1_2, sA41, f3, hb5, hb6, reduceLT, reduceEqDiff, reduceAdd, reduceLeDiff, reduceMul, Int.reduceEq]
        refine putK_at w1_f (by simp only [SB, f3, hb5, hb6, reduceLT, reduceEqDiff, reduceAdd, reduceLeDiff, reduceMul, Int.reduceEq]) w1_d ty3 rfl rfl (by simp only [SB, ty41, ty3, iia_arr (P := Try.prog) (j := 1) (m := 1) ty41 rfl ty3 (by decide) rfl, w1_2, sA41, reduceLT, reduceEqDiff, reduceAdd, reduceLeDiff, reduceMul, Int.reduceEq] <;> decide) (by simp only [SB, ty41, ty3, iia_arr (P := Try.prog) (j := 1) (m := 1) ty41 rfl ty3 (by decide) rfl, w1_2, sA41, reduceLT, reduceEqDiff, reduceAdd, reduceLeDiff, reduceMul, Int.reduceEq]) ?_
        intro H6 o14 khH6
        replace o14 := Own.setL (f := eA2 eInt) kl3 (by simp only [SB, ty41, ty3, iia_arr (P := Try.prog) (j := 1) (m := 1) ty41 rfl ty3 (by decide) rfl, w1_2, sA41, reduceLT, reduceEqDiff, reduceAdd, reduceLeDiff, reduceMul, Int.reduceEq] <;> rfl) o14
        simp only [SB, ty41, ty3, iia_arr (P := Try.prog) (j := 1) (m := 1) ty41 rfl ty3 (by decide) rfl, w1_2, sA41, f3, hb5, hb6, KHF khH6, reduceLT, reduceEqDiff, reduceAdd, reduceLeDiff, reduceMul, Int.reduceEq]
        refine hold_intro ?_
        refine U_at (fun a' H' => Kp [7, 8, 9] 10 a' a2 ∧ KH [125, 193, 205, 273] H' H4 ∧ a'.get 18 = .bool (decide (0 < (c6.length : Int))) ∧ Own [50] H' v5 1 (out_2.map eInt) ∧ a'.get 41 = .bool (decide (x1.a1 = (x2.length : Int))) ∧ a'.get 8 = .int .i64 x1.a0 ∧ a'.get 9 = .int .i64 x1.a1 ∧ Own [125, 193, 205, 273] H' v4 2 (l3.map (eA2 eInt)) ∧ Own [91] H' v1 1 (c5.map (eI .u64))) ⟨by simp only [SB, f3, hb5, hb6, KHF khH6, reduceLT, reduceEqDiff, reduceAdd, reduceLeDiff, reduceMul, Int.reduceEq], by simp only [SB, f3, hb5, hb6, KHF khH6, reduceLT, reduceEqDiff, reduceAdd, reduceLeDiff, reduceMul, Int.reduceEq], by simp only [SB, f3, hb5, hb6, KHF khH6, ty41, ty3, iia_arr (P := Try.prog) (j := 1) (m := 1) ty41 rfl ty3 (by decide) rfl, w1_2, sA41, reduceLT, reduceEqDiff, reduceAdd, reduceLeDiff, reduceMul, Int.reduceEq], (o10.same (by simp only [SB, f3, hb5, hb6, KHF khH6, reduceLT, reduceEqDiff, reduceAdd, reduceLeDiff, reduceMul, Int.reduceEq])), by simp only [SB, f3, hb5, hb6, KHF khH6, ty41, ty3, iia_arr (P := Try.prog) (j := 1) (m := 1) ty41 rfl ty3 (by decide) rfl, w1_2, sA41, reduceLT, reduceEqDiff, reduceAdd, reduceLeDiff, reduceMul, Int.reduceEq], by simp only [SB, f3, hb5, hb6, KHF khH6, ty41, ty3, iia_arr (P := Try.prog) (j := 1) (m := 1) ty41 rfl ty3 (by decide) rfl, w1_2, sA41, reduceLT, reduceEqDiff, reduceAdd, reduceLeDiff, reduceMul, Int.reduceEq], by simp only [SB, f3, hb5, hb6, KHF khH6, ty41, ty3, iia_arr (P := Try.prog) (j := 1) (m := 1) ty41 rfl ty3 (by decide) rfl, w1_2, sA41, reduceLT, reduceEqDiff, reduceAdd, reduceLeDiff, reduceMul, Int.reduceEq], (o14.same (by simp only [SB, f3, hb5, hb6, KHF khH6, reduceLT, reduceEqDiff, reduceAdd, reduceLeDiff, reduceMul, Int.reduceEq])), (o8.same (by simp only [SB, f3, hb5, hb6, KHF khH6, reduceLT, reduceEqDiff, reduceAdd, reduceLeDiff, reduceMul, Int.reduceEq]))⟩ ?_
        rintro a3 H7 ⟨kp3, kh6, e13, o15, e14, e15, e16, o17, o19⟩
        have f4 := And.intro f3 (And.intro hb5 (And.intro hb6 (And.intro (KHF khH6) (And.intro (KpF kp3) (And.intro (KHF kh6) (And.intro e13 (And.intro e14 (And.intro e15 (e16)))))))))
        refine U_renC (kb := 5) (gb := H1.next (5)) (D := [125, 193, 205, 273]) 0 (273) (o17.same (by simp only [SB, f4, reduceLT, reduceEqDiff, reduceAdd, reduceLeDiff, reduceMul, Int.reduceEq])) (by simp only [SB, f4, reduceLT, reduceEqDiff, reduceAdd, reduceLeDiff, reduceMul, Int.reduceEq] <;> rfl) rfl (by simp only [SB, f4, reduceLT, reduceEqDiff, reduceAdd, reduceLeDiff, reduceMul, Int.reduceEq]) (by simp only [ne_eq, SB, f4, reduceLT, reduceEqDiff, reduceAdd, reduceLeDiff, reduceMul, Int.reduceEq]) ?_
        intro v8 H8 o20 hb7 kh7
        simp only [SB] at hb7
        refine U_at (fun a' H' => Kp [] 10 a' a3 ∧ KH [125, 193, 205, 273, 5] H' H7 ∧ Own [50] H' v5 1 (out_2.map eInt) ∧ Own [273] H' v8 2 (l3.map (eA2 eInt)) ∧ H'.get ⟨5, H1.next (5)⟩ = some ⟨1, [[v8]]⟩ ∧ Own [91] H' v1 1 (c5.map (eI .u64))) ⟨by simp only [SB, f4, hb7, KHF kh7, reduceLT, reduceEqDiff, reduceAdd, reduceLeDiff, reduceMul, Int.reduceEq], by simp only [SB, f4, hb7, KHF kh7, reduceLT, reduceEqDiff, reduceAdd, reduceLeDiff, reduceMul, Int.reduceEq], (o15.same (by simp only [SB, f4, hb7, KHF kh7, reduceLT, reduceEqDiff, reduceAdd, reduceLeDiff, reduceMul, Int.reduceEq])), (o20.same (by simp only [SB, f4, hb7, KHF kh7, reduceLT, reduceEqDiff, reduceAdd, reduceLeDiff, reduceMul, Int.reduceEq])), by simp only [SB, f4, hb7, KHF kh7, ty41, ty3, iia_arr (P := Try.prog) (j := 1) (m := 1) ty41 rfl ty3 (by decide) rfl, w1_2, sA41, reduceLT, reduceEqDiff, reduceAdd, reduceLeDiff, reduceMul, Int.reduceEq] <;> rfl, (o19.same (by simp only [SB, f4, hb7, KHF kh7, reduceLT, reduceEqDiff, reduceAdd, reduceLeDiff, reduceMul, Int.reduceEq]))⟩ ?_
        rintro a4 H9 ⟨kp4, kh8, o21, o23, e17, o25⟩
        have f5 := And.intro f4 (And.intro hb7 (And.intro (KHF kh7) (And.intro (KpF kp4) (And.intro (KHF kh8) (e17)))))
        obtain ⟨x3, kx3, hr1⟩ := bndO hr1
        obtain ⟨⟨m4, m5⟩, km4, hr1⟩ := bndO hr1
        dsimp only at hr1
        refine U_reg ?_
        simp only [SB, ty108, ty31, sgraph_Graph, ty37, iia_sim (f := eS eInt) ty31 rfl ty37 kx2 rfl, row_sim (f := eS eInt) kx2, ty3, iia_sim (f := eInt) ty37 rfl ty3 kx3 rfl, row_sim (f := eInt) kx3, f5, reduceLT, reduceEqDiff, reduceAdd, reduceLeDiff, reduceMul, Int.reduceEq]
        refine callH (w_graph_Graph_post_1 (194) (k1q := 3) (g1q := H1.next (3)) (k1_0q := 93) (g1_0q := g1) (k1_0_1q := 91) (v1_0_1q := v1) (k2q := 5) (g2q := H1.next (5)) (k2_0q := 273) (v2_0q := v8) km4 (by simp only [SB, f5, reduceLT, reduceEqDiff, reduceAdd, reduceLeDiff, reduceMul, Int.reduceEq]) (by simp only [SB, f5, reduceLT, reduceEqDiff, reduceAdd, reduceLeDiff, reduceMul, Int.reduceEq]) (by simp only [SB, f5, reduceLT, reduceEqDiff, reduceAdd, reduceLeDiff, reduceMul, Int.reduceEq]) (by simp only [SB, f5, reduceLT, reduceEqDiff, reduceAdd, reduceLeDiff, reduceMul, Int.reduceEq]) (by simp only [SB, f5, reduceLT, reduceEqDiff, reduceAdd, reduceLeDiff, reduceMul, Int.reduceEq]) (by simp only [SB, ty108, ty31, sgraph_Graph, ty37, iia_sim (f := eS eInt) ty31 rfl ty37 kx2 rfl, row_sim (f := eS eInt) kx2, ty3, iia_sim (f := eInt) ty37 rfl ty3 kx3 rfl, row_sim (f := eInt) kx3, f5, reduceLT, reduceEqDiff, reduceAdd, reduceLeDiff, reduceMul, Int.reduceEq] <;> rfl) (by simp only [SB, ty108, ty31, sgraph_Graph, ty37, iia_sim (f := eS eInt) ty31 rfl ty37 kx2 rfl, row_sim (f := eS eInt) kx2, ty3, iia_sim (f := eInt) ty37 rfl ty3 kx3 rfl, row_sim (f := eInt) kx3, f5, reduceLT, reduceEqDiff, reduceAdd, reduceLeDiff, reduceMul, Int.reduceEq] <;> rfl) (o25.same (by simp only [SB, f5, reduceLT, reduceEqDiff, reduceAdd, reduceLeDiff, reduceMul, Int.reduceEq])) (by simp only [SB, ty108, ty31, sgraph_Graph, ty37, iia_sim (f := eS eInt) ty31 rfl ty37 kx2 rfl, row_sim (f := eS eInt) kx2, ty3, iia_sim (f := eInt) ty37 rfl ty3 kx3 rfl, row_sim (f := eInt) kx3, f5, reduceLT, reduceEqDiff, reduceAdd, reduceLeDiff, reduceMul, Int.reduceEq] <;> rfl) (o23.same (by simp only [SB, f5, reduceLT, reduceEqDiff, reduceAdd, reduceLeDiff, reduceMul, Int.reduceEq]))) ?_
        rintro rv3 H10 ⟨v10, rfl, kh9, hb9, hb8, o26, hb10, o27⟩
        try simp only [Nat.add_assoc, reduceAdd] at kh9 hb9 hb8 o26 hb10 o27
        try simp only [Nat.add_assoc, reduceAdd]
        simp only [SB, ty108, ty31, sgraph_Graph, ty37, iia_sim (f := eS eInt) ty31 rfl ty37 kx2 rfl, row_sim (f := eS eInt) kx2, ty3, iia_sim (f := eInt) ty37 rfl ty3 kx3 rfl, row_sim (f := eInt) kx3, f5, KHF kh9, hb9, hb8, hb10, reduceLT, reduceEqDiff, reduceAdd, reduceLeDiff, reduceMul, Int.reduceEq]
        refine hold_intro ?_
        replace hr1 := Option.some.inj hr1
        subst hr1
        exact ⟨(m3', m4.n, m4.words, m5, out_2), m3_lt, hl2, _, _, by simp only [SB, f5, KHF kh9, hb9, hb8, hb10, reduceLT, reduceEqDiff, reduceAdd, reduceLeDiff, reduceMul, Int.reduceEq], by simp only [SB, f5, KHF kh9, hb9, hb8, hb10, reduceLT, reduceEqDiff, reduceAdd, reduceLeDiff, reduceMul, Int.reduceEq], (o26.same (by simp only [SB, f5, KHF kh9, hb9, hb8, hb10, reduceLT, reduceEqDiff, reduceAdd, reduceLeDiff, reduceMul, Int.reduceEq])), (Own.sub (o27.same (by simp only [SB, f5, KHF kh9, hb9, hb8, hb10, reduceLT, reduceEqDiff, reduceAdd, reduceLeDiff, reduceMul, Int.reduceEq])) (by simp only [SB, reduceEqDiff])), (o21.same (by simp only [SB, f5, KHF kh9, hb9, hb8, hb10, reduceLT, reduceEqDiff, reduceAdd, reduceLeDiff, reduceMul, Int.reduceEq])), by simp only [SB, f5, KHF kh9, hb9, hb8, hb10, ty108, ty31, sgraph_Graph, ty37, iia_sim (f := eS eInt) ty31 rfl ty37 kx2 rfl, row_sim (f := eS eInt) kx2, ty3, iia_sim (f := eInt) ty37 rfl ty3 kx3 rfl, row_sim (f := eInt) kx3, reduceLT, reduceEqDiff, reduceAdd, reduceLeDiff, reduceMul, Int.reduceEq], by simp only [SB, f5, KHF kh9, hb9, hb8, hb10, ty108, ty31, sgraph_Graph, ty37, iia_sim (f := eS eInt) ty31 rfl ty37 kx2 rfl, row_sim (f := eS eInt) kx2, ty3, iia_sim (f := eInt) ty37 rfl ty3 kx3 rfl, row_sim (f := eInt) kx3, reduceLT, reduceEqDiff, reduceAdd, reduceLeDiff, reduceMul, Int.reduceEq] <;> rfl, by simp only [SB, f5, KHF kh9, hb9, hb8, hb10, ty108, ty31, sgraph_Graph, ty37, iia_sim (f := eS eInt) ty31 rfl ty37 kx2 rfl, row_sim (f := eS eInt) kx2, ty3, iia_sim (f := eInt) ty37 rfl ty3 kx3 rfl, row_sim (f := eInt) kx3, reduceLT, reduceEqDiff, reduceAdd, reduceLeDiff, reduceMul, Int.reduceEq] <;> rfl, by simp only [SB, f5, KHF kh9, hb9, hb8, hb10, ty108, ty31, sgraph_Graph, ty37, iia_sim (f := eS eInt) ty31 rfl ty37 kx2 rfl, row_sim (f := eS eInt) kx2, ty3, iia_sim (f := eInt) ty37 rfl ty3 kx3 rfl, row_sim (f := eInt) kx3, reduceLT, reduceEqDiff, reduceAdd, reduceLeDiff, reduceMul, Int.reduceEq] <;> rfl⟩
    ·
      rw [if_neg (by rw [hb5]; decide)] at hr1
      refine U_condF (by simp only [SB, f3, hb5, ty34, Own.len (P := Try.prog) o9 ty34 rfl, reduceLT, reduceEqDiff, reduceAdd, reduceLeDiff, reduceMul, Int.reduceEq]) ?_
      refine U_exit rfl ?_
      replace hr1 := Option.some.inj hr1
      subst hr1
      exact ⟨_, _, _, _, hl2, _, _, by simp only [SB, f3, hb5, reduceLT, reduceEqDiff, reduceAdd, reduceLeDiff, reduceMul, Int.reduceEq], by simp only [SB, f3, hb5, reduceLT, reduceEqDiff, reduceAdd, reduceLeDiff, reduceMul, Int.reduceEq], (o8.same (by simp only [SB, f3, hb5, reduceLT, reduceEqDiff, reduceAdd, reduceLeDiff, reduceMul, Int.reduceEq])), (o9.same (by simp only [SB, f3, hb5, reduceLT, reduceEqDiff, reduceAdd, reduceLeDiff, reduceMul, Int.reduceEq])), (o10.same (by simp only [SB, f3, hb5, reduceLT, reduceEqDiff, reduceAdd, reduceLeDiff, reduceMul, Int.reduceEq])), by simp only [SB, f3, hb5, ty34, Own.len (P := Try.prog) o9 ty34 rfl, reduceLT, reduceEqDiff, reduceAdd, reduceLeDiff, reduceMul, Int.reduceEq], by simp only [SB, f3, hb5, ty34, Own.len (P := Try.prog) o9 ty34 rfl, reduceLT, reduceEqDiff, reduceAdd, reduceLeDiff, reduceMul, Int.reduceEq] <;> rfl, by simp only [SB, f3, hb5, ty34, Own.len (P := Try.prog) o9 ty34 rfl, reduceLT, reduceEqDiff, reduceAdd, reduceLeDiff, reduceMul, Int.reduceEq] <;> rfl, by simp only [SB, f3, hb5, ty34, Own.len (P := Try.prog) o9 ty34 rfl, reduceLT, reduceEqDiff, reduceAdd, reduceLeDiff, reduceMul, Int.reduceEq] <;> rfl⟩
  ·
    rintro a5 H11 ⟨c7, c8, c9, out_3, rfl, v11, v12, kp5, kh10, o28, o29, o30, e18, e19, e20, e21⟩
    replace h := outE_n h
    dsimp only at h
    have f6 := And.intro f2 (And.intro e18 (And.intro e19 (And.intro e20 (And.intro e21 (And.intro (KpF kp5) ((KHF kh10)))))))
    refine U_seq ?_
    refine U_reg ?_
    simp only [SB, f6, reduceLT, reduceEqDiff, reduceAdd, reduceLeDiff, reduceMul, Int.reduceEq]
    refine hold_intro ?_
    refine U_ret ?_
    replace h := Option.some.inj h
    subst h
    refine ⟨v12, by simp only [ires, iress, Try.results82, SB, List.toList_toArray, f6, reduceLT, reduceEqDiff, reduceAdd, reduceLeDiff, reduceMul, Int.reduceEq], ?_⟩
    exact ((o30.same (by simp only [SB, f6, reduceLT, reduceEqDiff, reduceAdd, reduceLeDiff, reduceMul, Int.reduceEq]))).fz (cls cl_eInt _)

theorem w_slices_Reverse_int_int (b_ : Nat) {fuel : Nat} {s_1 : List Int} {m0_ : List Int} (h : p_slices_Reverse_int_int fuel s_1 = some m0_) {k0q : Nat} {v0q : IV} {H : Heap} (ha0 : k0q ∉ []) (o0q : Own [k0q] H v0q 1 (s_1.map eInt)) : CallW Try.prog 83 [v0q] H (fun rv H' => rv = (.tup [] : IV) ∧ KH [k0q] H' H ∧ Own [k0q] H' v0q 1 (m0_.map eInt)) := by
  refine U_call b_ Try.func83 rfl (by kernel_rfl) (by simp [Try.ntmps83]) ?_
  rw [Try.ntmps83]
  refine U_at (fun a' H' => H = H' ∧ a'.n = 28 ∧ a'.b = b_ ∧ a'.get 0 = v0q) ⟨rfl, rfl, rfl, rfl⟩ ?_
  rintro a0 H0 ⟨rfl, hn0, hn1, e1⟩
  unfold p_slices_Reverse_int_int at h
  have f1 := And.intro hn0 (And.intro hn1 (And.intro e1 ((apF ha0))))
  refine U_seq ?_
  refine U_reg ?_
  simp only [SB, Own.len (P := Try.prog) o0q ty37 rfl, ty37, f1, reduceLT, reduceEqDiff, reduceAdd, reduceLeDiff, reduceMul, Int.reduceEq]
  refine hold_intro ?_
  refine U_at (fun a' H' => Kp [2, 3] 4 a' a0 ∧ H = H' ∧ Own [k0q] H' v0q 1 (s_1.map eInt) ∧ a'.get 2 = .int .i64 0 ∧ a'.get 3 = .int .i64 (IntKind.wrap .i64 ((s_1.length : Int) - 1))) ⟨by simp only [SB, f1, reduceLT, reduceEqDiff, reduceAdd, reduceLeDiff, reduceMul, Int.reduceEq], rfl, (o0q.same (by simp only [SB, f1, reduceLT, reduceEqDiff, reduceAdd, reduceLeDiff, reduceMul, Int.reduceEq])), by simp only [SB, f1, Own.len (P := Try.prog) o0q ty37 rfl, ty37, reduceLT, reduceEqDiff, reduceAdd, reduceLeDiff, reduceMul, Int.reduceEq], by simp only [SB, f1, Own.len (P := Try.prog) o0q ty37 rfl, ty37, reduceLT, reduceEqDiff, reduceAdd, reduceLeDiff, reduceMul, Int.reduceEq]⟩ ?_
  rintro a1 H1 ⟨kp1, rfl, o1, e2, e3⟩
  have f2 := And.intro f1 (And.intro (KpF kp1) (And.intro e2 (e3)))
  obtain ⟨u1, he1, h⟩ := bndE h
  refine U_cut (fun a' H' => ∃ s_3 : List Int, ∃ i_2 : Int, ∃ j_2 : Int, u1 = .n (s_3, i_2, j_2) ∧ Kp [2, 3] 4 a' a1 ∧ KH [k0q] H' H ∧ Own [k0q] H' v0q 1 (s_3.map eInt) ∧ a'.get 0 = v0q ∧ a'.get 2 = .int .i64 i_2 ∧ a'.get 3 = .int .i64 j_2) (U_block (U_loop (fun y a' H' => match y with | (m1, s_3, i_2, j_2) => loopE m1 (fun s => p_slices_Reverse_int_int_b1 fuel  s.1 s.2.1 s.2.2) (s_3, i_2, j_2) = some u1 ∧ Kp [2, 3] 4 a' a1 ∧ KH [k0q] H' H ∧ Own [k0q] H' v0q 1 (s_3.map eInt) ∧ a'.get 0 = v0q ∧ a'.get 2 = .int .i64 i_2 ∧ a'.get 3 = .int .i64 j_2 : (Nat × (List Int) × Int × Int) → Fr → Heap → Prop) (fun y : Nat × (List Int) × Int × Int => y.1) (fuel, s_1, 0, IntKind.wrap .i64 ((s_1.length : Int) - 1)) ?_ ?_)) ?_
  · exact ⟨he1, by simp only [SB, f2, reduceLT, reduceEqDiff, reduceAdd, reduceLeDiff, reduceMul, Int.reduceEq], by simp only [SB, f2, reduceLT, reduceEqDiff, reduceAdd, reduceLeDiff, reduceMul, Int.reduceEq], (o1.same (by simp only [SB, f2, reduceLT, reduceEqDiff, reduceAdd, reduceLeDiff, reduceMul, Int.reduceEq])), by simp only [SB, f2, Own.len (P := Try.prog) o0q ty37 rfl, ty37, reduceLT, reduceEqDiff, reduceAdd, reduceLeDiff, reduceMul, Int.reduceEq], by simp only [SB, f2, Own.len (P := Try.prog) o0q ty37 rfl, ty37, reduceLT, reduceEqDiff, reduceAdd, reduceLeDiff, reduceMul, Int.reduceEq], by simp only [SB, f2, Own.len (P := Try.prog) o0q ty37 rfl, ty37, reduceLT, reduceEqDiff, reduceAdd, reduceLeDiff, reduceMul, Int.reduceEq]⟩
  ·
    rintro ⟨m1, s_3, i_2, j_2⟩ a2 H2 ⟨hf2, kp2, kh1, o2, e4, e5, e6⟩
    obtain ⟨m1', m1_lt, u2, hr1, hl2⟩ := loopE_step hf2
    replace hr1 : p_slices_Reverse_int_int_b1 fuel  s_3 i_2 j_2 = some u2 := hr1
    unfold p_slices_Reverse_int_int_b1 at hr1
    have f3 := And.intro f2 (And.intro e4 (And.intro e5 (And.intro e6 (And.intro (KpF kp2) ((KHF kh1))))))
    refine U_seq ?_
    refine U_seq ?_
    refine U_reg ?_
    simp only [SB, f3, reduceLT, reduceEqDiff, reduceAdd, reduceLeDiff, reduceMul, Int.reduceEq]
    refine hold_intro ?_
    rcases Bool.eq_false_or_eq_true (decide (i_2 < j_2)) with hb1 | hb1
    ·
      rw [if_pos hb1] at hr1
      refine U_condT (by simp only [SB, f3, hb1, reduceLT, reduceEqDiff, reduceAdd, reduceLeDiff, reduceMul, Int.reduceEq]) ?_
      refine U_skip ?_
      refine U_seq ?_
      refine U_block ?_
      obtain ⟨x1, kx1, hr1⟩ := bndO hr1
      obtain ⟨x2, kx2, hr1⟩ := bndO hr1
      obtain ⟨l1, kl1, hr1⟩ := bndO hr1
      obtain ⟨x3, kx3, hr1⟩ := bndO hr1
      obtain ⟨l2, kl2, hr1⟩ := bndO hr1
      refine U_draw hm false 14 (by decide +kernel) (by decide) ?_
      obtain ⟨w1_i, w1_r, w1_d, w1_f⟩ := Own.at (P := Try.prog) (k := .i64) o2 ty37 rfl ty3 rfl (idx_facts kx1).1 (row_map (f := eInt) kx1)
      have w1_1 := fun H1 hs => (w1_f H1 hs).1
      have w1_2 := fun H1 hs => (w1_f H1 hs).2.1
      obtain ⟨w2_i, w2_r, w2_d, w2_f⟩ := Own.at (P := Try.prog) (k := .i64) o2 ty37 rfl ty3 rfl (idx_facts kx2).1 (row_map (f := eInt) kx2)
      have w2_1 := fun H1 hs => (w2_f H1 hs).1
      have w2_2 := fun H1 hs => (w2_f H1 hs).2.1
      simp only [SB, ty37, ty3, w1_1, w1_2, w2_1, w2_2, f3, hb1, reduceLT, reduceEqDiff, reduceAdd, reduceLeDiff, reduceMul, Int.reduceEq]
      refine putK_at w2_f (by simp only [SB, f3, hb1, reduceLT, reduceEqDiff, reduceAdd, reduceLeDiff, reduceMul, Int.reduceEq]) w2_d ty3 rfl rfl (by simp only [SB, ty37, ty3, w1_1, w1_2, w2_1, w2_2, reduceLT, reduceEqDiff, reduceAdd, reduceLeDiff, reduceMul, Int.reduceEq] <;> decide) (by simp only [SB, ty37, ty3, w1_1, w1_2, w2_1, w2_2, reduceLT, reduceEqDiff, reduceAdd, reduceLeDiff, reduceMul, Int.reduceEq]) ?_
      intro H3 o3 khH3
      replace o3 := Own.setL (f := eInt) kl1 (by simp only [SB, ty37, ty3, w1_1, w1_2, w2_1, w2_2, reduceLT, reduceEqDiff, reduceAdd, reduceLeDiff, reduceMul, Int.reduceEq] <;> rfl) o3
      obtain ⟨w3_i, w3_r, w3_d, w3_f⟩ := Own.at (P := Try.prog) (k := .i64) o3 ty37 rfl ty3 rfl (idx_facts kx3).1 (row_map (f := eInt) kx3)
      have w3_1 := fun H1 hs => (w3_f H1 hs).1
      have w3_2 := fun H1 hs => (w3_f H1 hs).2.1
      simp only [SB, ty37, ty3, w1_1, w1_2, w2_1, w2_2, w3_1, w3_2, f3, hb1, KHF khH3, reduceLT, reduceEqDiff, reduceAdd, reduceLeDiff, reduceMul, Int.reduceEq]
      refine putK_at w3_f (by simp only [SB, f3, hb1, KHF khH3, reduceLT, reduceEqDiff, reduceAdd, reduceLeDiff, reduceMul, Int.reduceEq]) w3_d ty3 rfl rfl (by simp only [SB, ty37, ty3, w1_1, w1_2, w2_1, w2_2, w3_1, w3_2, reduceLT, reduceEqDiff, reduceAdd, reduceLeDiff, reduceMul, Int.reduceEq] <;> decide) (by simp only [SB, ty37, ty3, w1_1, w1_2, w2_1, w2_2, w3_1, w3_2, reduceLT, reduceEqDiff, reduceAdd, reduceLeDiff, reduceMul, Int.reduceEq]) ?_
      intro H4 o4 khH4
      replace o4 := Own.setL (f := eInt) kl2 (by simp only [SB, ty37, ty3, w1_1, w1_2, w2_1, w2_2, w3_1, w3_2, reduceLT, reduceEqDiff, reduceAdd, reduceLeDiff, reduceMul, Int.reduceEq] <;> rfl) o4
      simp only [SB, ty37, ty3, w1_1, w1_2, w2_1, w2_2, w3_1, w3_2, f3, hb1, KHF khH3, KHF khH4, reduceLT, reduceEqDiff, reduceAdd, reduceLeDiff, reduceMul, Int.reduceEq]
      refine hold_intro ?_
      refine U_reg ?_
      simp only [SB, f3, hb1, KHF khH3, KHF khH4, reduceLT, reduceEqDiff, reduceAdd, reduceLeDiff, reduceMul, Int.reduceEq]
      refine hold_intro ?_
      replace hr1 := Option.some.inj hr1
      subst hr1
      exact ⟨(m1', l2, IntKind.wrap .i64 (i_2 + 1), IntKind.wrap .i64 (j_2 - 1)), m1_lt, hl2, by simp only [SB, f3, hb1, KHF khH3, KHF khH4, reduceLT, reduceEqDiff, reduceAdd, reduceLeDiff, reduceMul, Int.reduceEq], by simp only [SB, f3, hb1, KHF khH3, KHF khH4, reduceLT, reduceEqDiff, reduceAdd, reduceLeDiff, reduceMul, Int.reduceEq], (o4.same (by simp only [SB, f3, hb1, KHF khH3, KHF khH4, reduceLT, reduceEqDiff, reduceAdd, reduceLeDiff, reduceMul, Int.reduceEq])), by simp only [SB, f3, hb1, KHF khH3, KHF khH4, reduceLT, reduceEqDiff, reduceAdd, reduceLeDiff, reduceMul, Int.reduceEq], by simp only [SB, f3, hb1, KHF khH3, KHF khH4, reduceLT, reduceEqDiff, reduceAdd, reduceLeDiff, reduceMul, Int.reduceEq], by simp only [SB, f3, hb1, KHF khH3, KHF khH4, reduceLT, reduceEqDiff, reduceAdd, reduceLeDiff, reduceMul, Int.reduceEq]⟩
    ·
      rw [if_neg (by rw [hb1]; decide)] at hr1
      refine U_condF (by simp only [SB, f3, hb1, reduceLT, reduceEqDiff, reduceAdd, reduceLeDiff, reduceMul, Int.reduceEq]) ?_
      refine U_exit rfl ?_
      replace hr1 := Option.some.inj hr1
      subst hr1
      exact ⟨_, _, _, hl2, by simp only [SB, f3, hb1, reduceLT, reduceEqDiff, reduceAdd, reduceLeDiff, reduceMul, Int.reduceEq], by simp only [SB, f3, hb1, reduceLT, reduceEqDiff, reduceAdd, reduceLeDiff, reduceMul, Int.reduceEq], (o2.same (by simp only [SB, f3, hb1, reduceLT, reduceEqDiff, reduceAdd, reduceLeDiff, reduceMul, Int.reduceEq])), by simp only [SB, f3, hb1, reduceLT, reduceEqDiff, reduceAdd, reduceLeDiff, reduceMul, Int.reduceEq], by simp only [SB, f3, hb1, reduceLT, reduceEqDiff, reduceAdd, reduceLeDiff, reduceMul, Int.reduceEq], by simp only [SB, f3, hb1, reduceLT, reduceEqDiff, reduceAdd, reduceLeDiff, reduceMul, Int.reduceEq]⟩
  ·
    rintro a3 H5 ⟨s_4, i_3, j_3, rfl, kp3, kh2, o5, e8, e9, e10⟩
    replace h := outE_n h
    dsimp only at h
    have f4 := And.intro f2 (And.intro e8 (And.intro e9 (And.intro e10 (And.intro (KpF kp3) ((KHF kh2))))))
    replace h := Option.some.inj h
    subst h
    refine ⟨.tup [], by simp only [ires, iress, Try.results83, SB, List.toList_toArray, f4, reduceLT, reduceEqDiff, reduceAdd, reduceLeDiff, reduceMul, Int.reduceEq], ?_⟩
    exact ⟨rfl, by simp only [SB, f4, reduceLT, reduceEqDiff, reduceAdd, reduceLeDiff, reduceMul, Int.reduceEq], (o5.same (by simp only [SB, f4, reduceLT, reduceEqDiff, reduceAdd, reduceLeDiff, reduceMul, Int.reduceEq]))⟩

theorem w_graph_Graph_post_own0 (b_ : Nat) {fuel : Nat} {g_1 : graph_Graph} {r0_ : List Int} (h : p_graph_Graph_post fuel g_1 = some r0_)  {H : Heap}   : CallW Try.prog 82 [.pim [egraph_Graph g_1] 0 0] H (fun rv H' => ∃ w0_ : IV, rv = (w0_ : IV) ∧ KH [b_ + 124, b_ + 125, b_ + 193, b_ + 204, b_ + 205, b_ + 273, b_ + 3, b_ + 49, b_ + 5, b_ + 50, b_ + 91, b_ + 93] H' H ∧ Own [b_ + 50] H' w0_ 1 (r0_.map eInt)) := by
  refine U_call b_ Try.func82 rfl (by kernel_rfl) (by simp [Try.ntmps82]) ?_
  rw [Try.ntmps82]
  refine U_at (fun a' H' => H = H' ∧ a'.n = 71 ∧ a'.b = b_ ∧ a'.get 0 = .pim [egraph_Graph g_1] 0 0) ⟨rfl, rfl, rfl, rfl⟩ ?_
  rintro a0 H0 ⟨rfl, hn0, hn1, e1⟩
  unfold p_graph_Graph_post at h
  have f1 := And.intro hn0 (And.intro hn1 (e1))
  refine U_seq ?_
  refine U_reg ?_
  simp only [SB, f1, reduceLT, reduceEqDiff, reduceAdd, reduceLeDiff, reduceMul, Int.reduceEq]
  refine hold_intro ?_
  refine U_seq ?_
  obtain ⟨r1, kr1, h⟩ := bndO h
  obtain ⟨r2, kr2, h⟩ := bndO h
  refine U_reg ?_
  simp only [SB, f1, reduceLT, reduceEqDiff, reduceAdd, reduceLeDiff, reduceMul, Int.reduceEq]
  refine callP (w_graph_Graph_Len kr1) ?_
  simp only [SB, f1, reduceLT, reduceEqDiff, reduceAdd, reduceLeDiff, reduceMul, Int.reduceEq]
  refine callH (w_bits_New_own0 (b_ + 81)  kr2  ) ?_
  rintro rv1 H1 ⟨g1, v1, rfl, kh1, hb1, o1⟩
  try simp only [Nat.add_assoc, reduceAdd] at kh1 hb1 o1
  try simp only [Nat.add_assoc, reduceAdd]
  simp only [SB, ty44, f1, KHF kh1, hb1, reduceLT, reduceEqDiff, reduceAdd, reduceLeDiff, reduceMul, Int.reduceEq]
  refine hold_intro ?_
  refine U_seq ?_
  refine U_reg ?_
  simp only [SB, f1, KHF kh1, hb1, reduceLT, reduceEqDiff, reduceAdd, reduceLeDiff, reduceMul, Int.reduceEq]
  refine hold_intro ?_
  refine U_seq ?_
  refine U_reg ?_
  simp only [SB, ty34, f1, KHF kh1, hb1, reduceLT, reduceEqDiff, reduceAdd, reduceLeDiff, reduceMul, Int.reduceEq]
  refine hold_intro ?_
  refine U_seq ?_
  refine U_reg ?_
  simp only [SB, f1, KHF kh1, hb1, reduceLT, reduceEqDiff, reduceAdd, reduceLeDiff, reduceMul, Int.reduceEq]
  refine hold_intro ?_
  refine U_seq ?_
  obtain ⟨⟨m1, m2⟩, km1, h⟩ := bndO h
  dsimp only at h
  refine U_reg ?_
  simp only [SB, f1, KHF kh1, hb1, reduceLT, reduceEqDiff, reduceAdd, reduceLeDiff, reduceMul, Int.reduceEq]
  refine callH (w_graph_Graph_post_1 (b_ + 114) (k1q := b_ + 3) (g1q := H1.next (b_ + 3)) (k1_0q := b_ + 93) (g1_0q := g1) (k1_0_1q := b_ + 91) (v1_0_1q := v1) (k2q := b_ + 5) (g2q := H1.next (b_ + 5)) (k2_0q := b_ + 193) (v2_0q := .nils) km1 (by simp only [SB, f1, KHF kh1, hb1, reduceLT, reduceEqDiff, reduceAdd, reduceLeDiff, reduceMul, Int.reduceEq]) (by simp only [SB, f1, KHF kh1, hb1, reduceLT, reduceEqDiff, reduceAdd, reduceLeDiff, reduceMul, Int.reduceEq]) (by simp only [SB, f1, KHF kh1, hb1, reduceLT, reduceEqDiff, reduceAdd, reduceLeDiff, reduceMul, Int.reduceEq]) (by simp only [SB, f1, KHF kh1, hb1, reduceLT, reduceEqDiff, reduceAdd, reduceLeDiff, reduceMul, Int.reduceEq]) (by simp only [SB, f1, KHF kh1, hb1, reduceLT, reduceEqDiff, reduceAdd, reduceLeDiff, reduceMul, Int.reduceEq]) (by simp only [SB, f1, KHF kh1, hb1, reduceLT, reduceEqDiff, reduceAdd, reduceLeDiff, reduceMul, Int.reduceEq] <;> rfl) (by simp only [SB, f1, KHF kh1, hb1, reduceLT, reduceEqDiff, reduceAdd, reduceLeDiff, reduceMul, Int.reduceEq] <;> rfl) (o1.same (by simp only [SB, f1, KHF kh1, hb1, reduceLT, reduceEqDiff, reduceAdd, reduceLeDiff, reduceMul, Int.reduceEq])) (by simp only [SB, f1, KHF kh1, hb1, reduceLT, reduceEqDiff, reduceAdd, reduceLeDiff, reduceMul, Int.reduceEq] <;> rfl) Own.nil) ?_
  rintro rv2 H2 ⟨v3, rfl, kh2, hb3, hb2, o2, hb4, o3⟩
  try simp only [Nat.add_assoc, reduceAdd] at kh2 hb3 hb2 o2 hb4 o3
  try simp only [Nat.add_assoc, reduceAdd]
  simp only [SB, f1, KHF kh1, hb1, KHF kh2, hb3, hb2, hb4, reduceLT, reduceEqDiff, reduceAdd, reduceLeDiff, reduceMul, Int.reduceEq]
  refine hold_intro ?_
  refine U_seq ?_
  refine U_at (fun a' H' => Kp [2, 3, 4, 5, 6] 10 a' a0 ∧ KH [b_ + 124, b_ + 125, b_ + 193, b_ + 3, b_ + 5, b_ + 91, b_ + 93] H' H ∧ a'.get 4 = .nils ∧ a'.get 5 = .pb ⟨b_ + 5, H1.next (b_ + 5)⟩ 0 0 ∧ a'.get 6 = .fn (.func 132) [] [.pb ⟨b_ + 3, H1.next (b_ + 3)⟩ 0 0, .pb ⟨b_ + 5, H1.next (b_ + 5)⟩ 0 0] ∧ H'.get ⟨b_ + 3, H1.next (b_ + 3)⟩ = some ⟨1, [[.pb ⟨b_ + 93, g1⟩ 0 0]]⟩ ∧ Own [b_ + 125, b_ + 193] H' v3 2 (m2.map (eA2 eInt)) ∧ H'.get ⟨b_ + 5, H1.next (b_ + 5)⟩ = some ⟨1, [[v3]]⟩ ∧ Own [b_ + 91] H' v1 1 (m1.words.map (eI .u64)) ∧ H'.get ⟨b_ + 93, g1⟩ = some ⟨2, [[.int .i64 m1.n, v1]]⟩) ⟨by simp only [SB, f1, KHF kh1, hb1, KHF kh2, hb3, hb2, hb4, reduceLT, reduceEqDiff, reduceAdd, reduceLeDiff, reduceMul, Int.reduceEq], by simp only [SB, f1, KHF kh1, hb1, KHF kh2, hb3, hb2, hb4, reduceLT, reduceEqDiff, reduceAdd, reduceLeDiff, reduceMul, Int.reduceEq], by simp only [SB, f1, KHF kh1, hb1, KHF kh2, hb3, hb2, hb4, reduceLT, reduceEqDiff, reduceAdd, reduceLeDiff, reduceMul, Int.reduceEq], by simp only [SB, f1, KHF kh1, hb1, KHF kh2, hb3, hb2, hb4, reduceLT, reduceEqDiff, reduceAdd, reduceLeDiff, reduceMul, Int.reduceEq], by simp only [SB, f1, KHF kh1, hb1, KHF kh2, hb3, hb2, hb4, reduceLT, reduceEqDiff, reduceAdd, reduceLeDiff, reduceMul, Int.reduceEq], by simp only [SB, f1, KHF kh1, hb1, KHF kh2, hb3, hb2, hb4, reduceLT, reduceEqDiff, reduceAdd, reduceLeDiff, reduceMul, Int.reduceEq] <;> rfl, (o3.same (by simp only [SB, f1, KHF kh1, hb1, KHF kh2, hb3, hb2, hb4, reduceLT, reduceEqDiff, reduceAdd, reduceLeDiff, reduceMul, Int.reduceEq])), by simp only [SB, f1, KHF kh1, hb1, KHF kh2, hb3, hb2, hb4, reduceLT, reduceEqDiff, reduceAdd, reduceLeDiff, reduceMul, Int.reduceEq] <;> rfl, (o2.same (by simp only [SB, f1, KHF kh1, hb1, KHF kh2, hb3, hb2, hb4, reduceLT, reduceEqDiff, reduceAdd, reduceLeDiff, reduceMul, Int.reduceEq])), by simp only [SB, f1, KHF kh1, hb1, KHF kh2, hb3, hb2, hb4, reduceLT, reduceEqDiff, reduceAdd, reduceLeDiff, reduceMul, Int.reduceEq] <;> rfl⟩ ?_
  rintro a1 H3 ⟨kp1, kh3, e2, e3, e4, e5, o5, e6, o7, e7⟩
  have f2 := And.intro f1 (And.intro (KHF kh1) (And.intro hb1 (And.intro (KHF kh2) (And.intro hb3 (And.intro hb2 (And.intro hb4 (And.intro (KpF kp1) (And.intro (KHF kh3) (And.intro e2 (And.intro e3 (And.intro e4 (And.intro e5 (And.intro e6 (e7))))))))))))))
  obtain ⟨u1, he1, h⟩ := bndE h
  refine U_cut (fun a' H' => ∃ c4 : Int, ∃ c5 : List Int, ∃ c6 : List (A2 Int), ∃ out_2 : List Int, u1 = .n (c4, c5, c6, out_2) ∧ ∃ v4, ∃ v5, Kp [4, 7, 8, 9] 10 a' a1 ∧ KH [b_ + 125, b_ + 193, b_ + 204, b_ + 205, b_ + 273, b_ + 3, b_ + 49, b_ + 5, b_ + 50, b_ + 91, b_ + 93] H' H3 ∧ Own [b_ + 91] H' v1 1 (c5.map (eI .u64)) ∧ Own [b_ + 125, b_ + 193, b_ + 205, b_ + 273] H' v4 2 (c6.map (eA2 eInt)) ∧ Own [b_ + 50] H' v5 1 (out_2.map eInt) ∧ a'.get 4 = v5 ∧ H'.get ⟨b_ + 3, H1.next (b_ + 3)⟩ = some ⟨1, [[.pb ⟨b_ + 93, g1⟩ 0 0]]⟩ ∧ H'.get ⟨b_ + 5, H1.next (b_ + 5)⟩ = some ⟨1, [[v4]]⟩ ∧ H'.get ⟨b_ + 93, g1⟩ = some ⟨2, [[.int .i64 c4, v1]]⟩) (U_block (U_loop (fun y a' H' => match y with | (m3, c4, c5, c6, out_2) => loopE m3 (fun s => p_graph_Graph_post_b1 fuel g_1 s.1 s.2.1 s.2.2.1 s.2.2.2) (c4, c5, c6, out_2) = some u1 ∧ ∃ v4, ∃ v5, Kp [4, 7, 8, 9] 10 a' a1 ∧ KH [b_ + 125, b_ + 193, b_ + 204, b_ + 205, b_ + 273, b_ + 3, b_ + 49, b_ + 5, b_ + 50, b_ + 91, b_ + 93] H' H3 ∧ Own [b_ + 91] H' v1 1 (c5.map (eI .u64)) ∧ Own [b_ + 125, b_ + 193, b_ + 205, b_ + 273] H' v4 2 (c6.map (eA2 eInt)) ∧ Own [b_ + 50] H' v5 1 (out_2.map eInt) ∧ a'.get 4 = v5 ∧ H'.get ⟨b_ + 3, H1.next (b_ + 3)⟩ = some ⟨1, [[.pb ⟨b_ + 93, g1⟩ 0 0]]⟩ ∧ H'.get ⟨b_ + 5, H1.next (b_ + 5)⟩ = some ⟨1, [[v4]]⟩ ∧ H'.get ⟨b_ + 93, g1⟩ = some ⟨2, [[.int .i64 c4, v1]]⟩ : (Nat × Int × (List Int) × (List (A2 Int)) × (List Int)) → Fr → Heap → Prop) (fun y : Nat × Int × (List Int) × (List (A2 Int)) × (List Int) => y.1) (fuel, m1.n, m1.words, m2, []) ?_ ?_)) ?_
  · exact ⟨he1, _, _, by simp only [SB, f2, reduceLT, reduceEqDiff, reduceAdd, reduceLeDiff, reduceMul, Int.reduceEq], by simp only [SB, f2, reduceLT, reduceEqDiff, reduceAdd, reduceLeDiff, reduceMul, Int.reduceEq], (o7.same (by simp only [SB, f2, reduceLT, reduceEqDiff, reduceAdd, reduceLeDiff, reduceMul, Int.reduceEq])), (Own.sub (o5.same (by simp only [SB, f2, reduceLT, reduceEqDiff, reduceAdd, reduceLeDiff, reduceMul, Int.reduceEq])) (by simp only [SB, reduceEqDiff])), Own.nil, by simp only [SB, f2, reduceLT, reduceEqDiff, reduceAdd, reduceLeDiff, reduceMul, Int.reduceEq], by simp only [SB, f2, reduceLT, reduceEqDiff, reduceAdd, reduceLeDiff, reduceMul, Int.reduceEq] <;> rfl, by simp only [SB, f2, reduceLT, reduceEqDiff, reduceAdd, reduceLeDiff, reduceMul, Int.reduceEq] <;> rfl, by simp only [SB, f2, reduceLT, reduceEqDiff, reduceAdd, reduceLeDiff, reduceMul, Int.reduceEq] <;> rfl⟩
  ·
    rintro ⟨m3, c4, c5, c6, out_2⟩ a2 H4 ⟨hf2, v4, v5, kp2, kh4, o8, o9, o10, e8, e9, e10, e11⟩
    obtain ⟨m3', m3_lt, u2, hr1, hl2⟩ := loopE_step hf2
    replace hr1 : p_graph_Graph_post_b1 fuel g_1 c4 c5 c6 out_2 = some u2 := hr1
    unfold p_graph_Graph_post_b1 at hr1
    have f3 := And.intro f2 (And.intro e8 (And.intro e9 (And.intro e10 (And.intro e11 (And.intro (KpF kp2) ((KHF kh4)))))))
    refine U_seq ?_
    refine U_seq ?_
    refine U_reg ?_
    simp only [SB, ty34, Own.len (P := Try.prog) o9 ty34 rfl, f3, reduceLT, reduceEqDiff, reduceAdd, reduceLeDiff, reduceMul, Int.reduceEq]
    refine hold_intro ?_
    rcases Bool.eq_false_or_eq_true (decide (0 < (c6.length : Int))) with hb5 | hb5
    ·
      rw [if_pos hb5] at hr1
      refine U_condT (by simp only [SB, f3, hb5, ty34, Own.len (P := Try.prog) o9 ty34 rfl, reduceLT, reduceEqDiff, reduceAdd, reduceLeDiff, reduceMul, Int.reduceEq]) ?_
      refine U_skip ?_
      refine U_block ?_
      refine U_seq ?_
      obtain ⟨x1, kx1, hr1⟩ := bndO hr1
      refine U_reg ?_
      obtain ⟨w1_i, w1_r, w1_d, w1_f⟩ := Own.at (P := Try.prog) (k := .i64) o9 ty34 rfl ty41 rfl (idx_facts kx1).1 (row_map (f := eA2 eInt) kx1)
      have w1_1 := fun H1 hs => (w1_f H1 hs).1
      have w1_2 := fun H1 hs => (w1_f H1 hs).2.1
      simp only [SB, ty34, Own.len (P := Try.prog) o9 ty34 rfl, ty41, w1_1, w1_2, sA41, f3, hb5, reduceLT, reduceEqDiff, reduceAdd, reduceLeDiff, reduceMul, Int.reduceEq]
      refine hold_intro ?_
      refine U_seq ?_
      refine U_draw hm false 9 (by decide +kernel) (by decide) ?_
      simp only [SB, ty41, ty3, iia_arr (P := Try.prog) (j := 0) (m := 0) ty41 rfl ty3 (by decide) rfl, w1_2, sA41, iia_arr (P := Try.prog) (j := 1) (m := 1) ty41 rfl ty3 (by decide) rfl, f3, hb5, reduceLT, reduceEqDiff, reduceAdd, reduceLeDiff, reduceMul, Int.reduceEq]
      refine hold_intro ?_
      refine U_seq ?_
      refine U_seq ?_
      obtain ⟨x2, kx2, hr1⟩ := bndO hr1
      refine U_reg ?_
      simp only [SB, ty108, ty31, sgraph_Graph, ty37, iia_sim (f := eS eInt) ty31 rfl ty37 kx2 rfl, row_sim (f := eS eInt) kx2, len_sim ty37 rfl, f3, hb5, reduceLT, reduceEqDiff, reduceAdd, reduceLeDiff, reduceMul, Int.reduceEq]
      refine hold_intro ?_
      rcases Bool.eq_false_or_eq_true (decide (x1.a1 = (x2.length : Int))) with hb6 | hb6
      ·
        rw [if_pos hb6] at hr1
        refine U_condT (by simp only [SB, f3, hb5, hb6, ty108, ty31, sgraph_Graph, ty37, iia_sim (f := eS eInt) ty31 rfl ty37 kx2 rfl, row_sim (f := eS eInt) kx2, len_sim ty37 rfl, reduceLT, reduceEqDiff, reduceAdd, reduceLeDiff, reduceMul, Int.reduceEq]) ?_
        refine U_seq ?_
        obtain ⟨l1, kl1, hr1⟩ := bndO hr1
        refine U_reg ?_
        obtain ⟨v6, v6_f, o11⟩ := Own.sliL (f := eA2 eInt) o9 ty34 rfl ty41 rfl (bnds0 kl1) kl1
        simp only [SB, ty34, Own.len (P := Try.prog) o9 ty34 rfl, v6_f, Own.cf o11, f3, hb5, hb6, reduceLT, reduceEqDiff, reduceAdd, reduceLeDiff, reduceMul, Int.reduceEq]
        refine hold_intro ?_
        refine U_seq ?_
        obtain ⟨l2, kl2, hr1⟩ := bndO hr1
        refine U_reg ?_
        simp only [SB, ty37, ty3, f3, hb5, hb6, reduceLT, reduceEqDiff, reduceAdd, reduceLeDiff, reduceMul, Int.reduceEq]
        refine Own.appL (f := eInt) (xs := out_2) (ys := [x1.a0]) (D := [b_ + 50]) (Own.sub (o10.same (by simp only [SB, f3, hb5, hb6, reduceLT, reduceEqDiff, reduceAdd, reduceLeDiff, reduceMul, Int.reduceEq])) (by simp only [SB, reduceEqDiff])) (by simp only [put_b, f3, hb5, hb6, reduceLT, reduceEqDiff, reduceAdd, reduceLeDiff, reduceMul, Int.reduceEq]) (by simp only [SB, reduceEqDiff]) ty37 rfl ty37 rfl ty3 rfl rfl rfl (by decide) (by simp only [srows_sb, SB, ty37, ty3, f3, hb5, hb6, reduceLT, reduceEqDiff, reduceAdd, reduceLeDiff, reduceMul, Int.reduceEq] <;> rfl) cl_eInt kl2 ?_
        intro v7 H5 o13 kh5
        simp only [SB, ty37, ty3, f3, hb5, hb6, KHF kh5, reduceLT, reduceEqDiff, reduceAdd, reduceLeDiff, reduceMul, Int.reduceEq]
        refine hold_intro ?_
        refine U_exit rfl ?_
        replace hr1 := Option.some.inj hr1
        subst hr1
        exact ⟨(m3', c4, c5, l1, l2), m3_lt, hl2, _, _, by simp only [SB, f3, hb5, hb6, KHF kh5, reduceLT, reduceEqDiff, reduceAdd, reduceLeDiff, reduceMul, Int.reduceEq], by simp only [SB, f3, hb5, hb6, KHF kh5, reduceLT, reduceEqDiff, reduceAdd, reduceLeDiff, reduceMul, Int.reduceEq], (o8.same (by simp only [SB, f3, hb5, hb6, KHF kh5, reduceLT, reduceEqDiff, reduceAdd, reduceLeDiff, reduceMul, Int.reduceEq])), (o11.same (by simp only [SB, f3, hb5, hb6, KHF kh5, reduceLT, reduceEqDiff, reduceAdd, reduceLeDiff, reduceMul, Int.reduceEq])), (o13.same (by simp only [SB, f3, hb5, hb6, KHF kh5, reduceLT, reduceEqDiff, reduceAdd, reduceLeDiff, reduceMul, Int.reduceEq])), by simp only [SB, f3, hb5, hb6, KHF kh5, ty37, ty3, reduceLT, reduceEqDiff, reduceAdd, reduceLeDiff, reduceMul, Int.reduceEq], by simp only [SB, f3, hb5, hb6, KHF kh5, ty37, ty3, reduceLT, reduceEqDiff, reduceAdd, reduceLeDiff, reduceMul, Int.reduceEq] <;> rfl, by simp only [SB, f3, hb5, hb6, KHF kh5, ty37, ty3, reduceLT, reduceEqDiff, reduceAdd, reduceLeDiff, reduceMul, Int.reduceEq] <;> rfl, by simp only [SB, f3, hb5, hb6, KHF kh5, ty37, ty3, reduceLT, reduceEqDiff, reduceAdd, reduceLeDiff, reduceMul, Int.reduceEq] <;> rfl⟩
      ·
        rw [if_neg (by rw [hb6]; decide)] at hr1
        refine U_condF (by simp only [SB, f3, hb5, hb6, ty108, ty31, sgraph_Graph, ty37, iia_sim (f := eS eInt) ty31 rfl ty37 kx2 rfl, row_sim (f := eS eInt) kx2, len_sim ty37 rfl, reduceLT, reduceEqDiff, reduceAdd, reduceLeDiff, reduceMul, Int.reduceEq]) ?_
        refine U_skip ?_
        refine U_seq ?_
        obtain ⟨l3, kl3, hr1⟩ := bndO hr1
        refine U_draw hm false 6 (by decide +kernel) (by decide) ?_
        simp only [SB, ty41, ty3, iia_arr (P := Try.prog) (j := 1) (m := 1) ty41 rfl ty3 (by decide) rfl, w1_2, sA41, f3, hb5, hb6, reduceLT, reduceEqDiff, reduceAdd, reduceLeDiff, reduceMul, Int.reduceEq]
        refine putK_at w1_f (by simp only [SB, f3, hb5, hb6, reduceLT, reduceEqDiff, reduceAdd, reduceLeDiff, reduceMul, Int.reduceEq]) w1_d ty3 rfl rfl (by simp only [SB, ty41, ty3, iia_arr (P := Try.prog) (j := 1) (m := 1) ty41 rfl ty3 (by decide) rfl, w1_2, sA41, reduceLT, reduceEqDiff, reduceAdd, reduceLeDiff, reduceMul, Int.reduceEq] <;> decide) (by simp only [SB, ty41, ty3, iia_arr (P := Try.prog) (j := 1) (m := 1) ty41 rfl ty3 (by decide) rfl, w1_2, sA41, reduceLT, reduceEqDiff, reduceAdd, reduceLeDiff, reduceMul, Int.reduceEq]) ?_
        intro H6 o14 khH6
        replace o14 := Own.setL (f := eA2 eInt) kl3 (by simp only [SB, ty41, ty3, iia_arr (P := Try.prog) (j := 1) (m := 1) ty41 rfl ty3 (by decide) rfl, w1_2, sA41, reduceLT, reduceEqDiff, reduceAdd, reduceLeDiff, reduceMul, Int.reduceEq] <;> rfl) o14
        simp only [SB, ty41, ty3, iia_arr (P := Try.prog) (j := 1) (m := 1) ty41 rfl ty3 (by decide) rfl, w1_2, sA41, f3, hb5, hb6, KHF khH6, reduceLT, reduceEqDiff, reduceAdd, reduceLeDiff, reduceMul, Int.reduceEq]
        refine hold_intro ?_
        refine U_at (fun a' H' => Kp [7, 8, 9] 10 a' a2 ∧ KH [b_ + 125, b_ + 193, b_ + 205, b_ + 273] H' H4 ∧ a'.get 18 = .bool (decide (0 < (c6.length : Int))) ∧ Own [b_ + 50] H' v5 1 (out_2.map eInt) ∧ a'.get 41 = .bool (decide (x1.a1 = (x2.length : Int))) ∧ a'.get 8 = .int .i64 x1.a0 ∧ a'.get 9 = .int .i64 x1.a1 ∧ Own [b_ + 125, b_ + 193, b_ + 205, b_ + 273] H' v4 2 (l3.map (eA2 eInt)) ∧ Own [b_ + 91] H' v1 1 (c5.map (eI .u64))) ⟨by simp only [SB, f3, hb5, hb6, KHF khH6, reduceLT, reduceEqDiff, reduceAdd, reduceLeDiff, reduceMul, Int.reduceEq], by simp only [SB, f3, hb5, hb6, KHF khH6, reduceLT, reduceEqDiff, reduceAdd, reduceLeDiff, reduceMul, Int.reduceEq], by simp only [SB, f3, hb5, hb6, KHF khH6, ty41, ty3, iia_arr (P := Try.prog) (j := 1) (m := 1) ty41 rfl ty3 (by decide) rfl, w1_2, sA41, reduceLT, reduceEqDiff, reduceAdd, reduceLeDiff, reduceMul, Int.reduceEq], (o10.same (by simp only [SB, f3, hb5, hb6, KHF khH6, reduceLT, reduceEqDiff, reduceAdd, reduceLeDiff, reduceMul, Int.reduceEq])), by simp only [SB, f3, hb5, hb6, KHF khH6, ty41, ty3, iia_arr (P := Try.prog) (j := 1) (m := 1) ty41 rfl ty3 (by decide) rfl, w1_2, sA41, reduceLT, reduceEqDiff, reduceAdd, reduceLeDiff, reduceMul, Int.reduceEq], by simp only [SB, f3, hb5, hb6, KHF khH6, ty41, ty3, iia_arr (P := Try.prog) (j := 1) (m := 1) ty41 rfl ty3 (by decide) rfl, w1_2, sA41, reduceLT, reduceEqDiff, reduceAdd, reduceLeDiff, reduceMul, Int.reduceEq], by simp only [SB, f3, hb5, hb6, KHF khH6, ty41, ty3, iia_arr (P := Try.prog) (j := 1) (m := 1) ty41 rfl ty3 (by decide) rfl, w1_2, sA41, reduceLT, reduceEqDiff, reduceAdd, reduceLeDiff, reduceMul, Int.reduceEq], (o14.same (by simp only [SB, f3, hb5, hb6, KHF khH6, reduceLT, reduceEqDiff, reduceAdd, reduceLeDiff, reduceMul, Int.reduceEq])), (o8.same (by simp only [SB, f3, hb5, hb6, KHF khH6, reduceLT, reduceEqDiff, reduceAdd, reduceLeDiff, reduceMul, Int.reduceEq]))⟩ ?_
        rintro a3 H7 ⟨kp3, kh6, e13, o15, e14, e15, e16, o17, o19⟩
        have f4 := And.intro f3 (And.intro hb5 (And.intro hb6 (And.intro (KHF khH6) (And.intro (KpF kp3) (And.intro (KHF kh6) (And.intro e13 (And.intro e14 (And.intro e15 (e16)))))))))
        refine U_renC (kb := b_ + 5) (gb := H1.next (b_ + 5)) (D := [b_ + 125, b_ + 193, b_ + 205, b_ + 273]) 0 (b_ + 273) (o17.same (by simp only [SB, f4, reduceLT, reduceEqDiff, reduceAdd, reduceLeDiff, reduceMul, Int.reduceEq])) (by simp only [SB, f4, reduceLT, reduceEqDiff, reduceAdd, reduceLeDiff, reduceMul, Int.reduceEq] <;> rfl) rfl (by simp only [SB, f4, reduceLT, reduceEqDiff, reduceAdd, reduceLeDiff, reduceMul, Int.reduceEq]) (by simp only [ne_eq, SB, f4, reduceLT, reduceEqDiff, reduceAdd, reduceLeDiff, reduceMul, Int.reduceEq]) ?_
        intro v8 H8 o20 hb7 kh7
        simp only [SB] at hb7
        refine U_at (fun a' H' => Kp [] 10 a' a3 ∧ KH [b_ + 125, b_ + 193, b_ + 205, b_ + 273, b_ + 5] H' H7 ∧ Own [b_ + 50] H' v5 1 (out_2.map eInt) ∧ Own [b_ + 273] H' v8 2 (l3.map (eA2 eInt)) ∧ H'.get ⟨b_ + 5, H1.next (b_ + 5)⟩ = some ⟨1, [[v8]]⟩ ∧ Own [b_ + 91] H' v1 1 (c5.map (eI .u64))) ⟨by simp only [SB, f4, hb7, KHF kh7, reduceLT, reduceEqDiff, reduceAdd, reduceLeDiff, reduceMul, Int.reduceEq], by simp only [SB, f4, hb7, KHF kh7, reduceLT, reduceEqDiff, reduceAdd, reduceLeDiff, reduceMul, Int.reduceEq], (o15.same (by simp only [SB, f4, hb7, KHF kh7, reduceLT, reduceEqDiff, reduceAdd, reduceLeDiff, reduceMul, Int.reduceEq])), (o20.same (by simp only [SB, f4, hb7, KHF kh7, reduceLT, reduceEqDiff, reduceAdd, reduceLeDiff, reduceMul, Int.reduceEq])), by simp only [SB, f4, hb7, KHF kh7, ty41, ty3, iia_arr (P := Try.prog) (j := 1) (m := 1) ty41 rfl ty3 (by decide) rfl, w1_2, sA41, reduceLT, reduceEqDiff, reduceAdd, reduceLeDiff, reduceMul, Int.reduceEq] <;> rfl, (o19.same (by simp only [SB, f4, hb7, KHF kh7, reduceLT, reduceEqDiff, reduceAdd, reduceLeDiff, reduceMul, Int.reduceEq]))⟩ ?_
        rintro a4 H9 ⟨kp4, kh8, o21, o23, e17, o25⟩
        have f5 := And.intro f4 (And.intro hb7 (And.intro (KHF kh7) (And.intro (KpF kp4) (And.intro (KHF kh8) (e17)))))
        obtain ⟨x3, kx3, hr1⟩ := bndO hr1
        obtain ⟨⟨m4, m5⟩, km4, hr1⟩ := bndO hr1
        dsimp only at hr1
        refine U_reg ?_
        simp only [SB, ty108, ty31, sgraph_Graph, ty37, iia_sim (f := eS eInt) ty31 rfl ty37 kx2 rfl, row_sim (f := eS eInt) kx2, ty3, iia_sim (f := eInt) ty37 rfl ty3 kx3 rfl, row_sim (f := eInt) kx3, f5, reduceLT, reduceEqDiff, reduceAdd, reduceLeDiff, reduceMul, Int.reduceEq]
        refine callH (w_graph_Graph_post_1 (b_ + 194) (k1q := b_ + 3) (g1q := H1.next (b_ + 3)) (k1_0q := b_ + 93) (g1_0q := g1) (k1_0_1q := b_ + 91) (v1_0_1q := v1) (k2q := b_ + 5) (g2q := H1.next (b_ + 5)) (k2_0q := b_ + 273) (v2_0q := v8) km4 (by simp only [SB, f5, reduceLT, reduceEqDiff, reduceAdd, reduceLeDiff, reduceMul, Int.reduceEq]) (by simp only [SB, f5, reduceLT, reduceEqDiff, reduceAdd, reduceLeDiff, reduceMul, Int.reduceEq]) (by simp only [SB, f5, reduceLT, reduceEqDiff, reduceAdd, reduceLeDiff, reduceMul, Int.reduceEq]) (by simp only [SB, f5, reduceLT, reduceEqDiff, reduceAdd, reduceLeDiff, reduceMul, Int.reduceEq]) (by simp only [SB, f5, reduceLT, reduceEqDiff, reduceAdd, reduceLeDiff, reduceMul, Int.reduceEq]) (by simp only [SB, ty108, ty31, sgraph_Graph, ty37, iia_sim (f := eS eInt) ty31 rfl ty37 kx2 rfl, row_sim (f := eS eInt) kx2, ty3, iia_sim (f := eInt) ty37 rfl ty3 kx3 rfl, row_sim (f := eInt) kx3, f5, reduceLT, reduceEqDiff, reduceAdd, reduceLeDiff, reduceMul, Int.reduceEq] <;> rfl) (by simp only [SB, ty108, ty31, sgraph_Graph, ty37, iia_sim (f := eS eInt) ty31 rfl ty37 kx2 rfl, row_sim (f := eS eInt) kx2, ty3, iia_sim (f := eInt) ty37 rfl ty3 kx3 rfl, row_sim (f := eInt) kx3, f5, reduceLT, reduceEqDiff, reduceAdd, reduceLeDiff, reduceMul, Int.reduceEq] <;> rfl) (o25.same (by simp only [SB, f5, reduceLT, reduceEqDiff, reduceAdd, reduceLeDiff, reduceMul, Int.reduceEq])) (by simp only [SB, ty108, ty31, sgraph_Graph, ty37, iia_sim (f := eS eInt) ty31 rfl ty37 kx2 rfl, row_sim (f := eS eInt) kx2, ty3, iia_sim (f := eInt) ty37 rfl ty3 kx3 rfl, row_sim (f := eInt) kx3, f5, reduceLT, reduceEqDiff, reduceAdd, reduceLeDiff, reduceMul, Int.reduceEq] <;> rfl) (o23.same (by simp only [SB, f5, reduceLT, reduceEqDiff, reduceAdd, reduceLeDiff, reduceMul, Int.reduceEq]))) ?_
        rintro rv3 H10 ⟨v10, rfl, kh9, hb9, hb8, o26, hb10, o27⟩
        try simp only [Nat.add_assoc, reduceAdd] at kh9 hb9 hb8 o26 hb10 o27
        try simp only [Nat.add_assoc, reduceAdd]
        simp only [SB, ty108, ty31, sgraph_Graph, ty37, iia_sim (f := eS eInt) ty31 rfl ty37 kx2 rfl, row_sim (f := eS eInt) kx2, ty3, iia_sim (f := eInt) ty37 rfl ty3 kx3 rfl, row_sim (f := eInt) kx3, f5, KHF kh9, hb9, hb8, hb10, reduceLT, reduceEqDiff, reduceAdd, reduceLeDiff, reduceMul, Int.reduceEq]
        refine hold_intro ?_
        replace hr1 := Option.some.inj hr1
        subst hr1
        exact ⟨(m3', m4.n, m4.words, m5, out_2), m3_lt, hl2, _, _, by simp only [SB, f5, KHF kh9, hb9, hb8, hb10, reduceLT, reduceEqDiff, reduceAdd, reduceLeDiff, reduceMul, Int.reduceEq], by simp only [SB, f5, KHF kh9, hb9, hb8, hb10, reduceLT, reduceEqDiff, reduceAdd, reduceLeDiff, reduceMul, Int.reduceEq], (o26.same (by simp only [SB, f5, KHF kh9, hb9, hb8, hb10, reduceLT, reduceEqDiff, reduceAdd, reduceLeDiff, reduceMul, Int.reduceEq])), (Own.sub (o27.same (by simp only [SB, f5, KHF kh9, hb9, hb8, hb10, reduceLT, reduceEqDiff, reduceAdd, reduceLeDiff, reduceMul, Int.reduceEq])) (by simp only [SB, reduceEqDiff])), (o21.same (by simp only [SB, f5, KHF kh9, hb9, hb8, hb10, reduceLT, reduceEqDiff, reduceAdd, reduceLeDiff, reduceMul, Int.reduceEq])), by simp only [SB, f5, KHF kh9, hb9, hb8, hb10, ty108, ty31, sgraph_Graph, ty37, iia_sim (f := eS eInt) ty31 rfl ty37 kx2 rfl, row_sim (f := eS eInt) kx2, ty3, iia_sim (f := eInt) ty37 rfl ty3 kx3 rfl, row_sim (f := eInt) kx3, reduceLT, reduceEqDiff, reduceAdd, reduceLeDiff, reduceMul, Int.reduceEq], by simp only [SB, f5, KHF kh9, hb9, hb8, hb10, ty108, ty31, sgraph_Graph, ty37, iia_sim (f := eS eInt) ty31 rfl ty37 kx2 rfl, row_sim (f := eS eInt) kx2, ty3, iia_sim (f := eInt) ty37 rfl ty3 kx3 rfl, row_sim (f := eInt) kx3, reduceLT, reduceEqDiff, reduceAdd, reduceLeDiff, reduceMul, Int.reduceEq] <;> rfl, by simp only [SB, f5, KHF kh9, hb9, hb8, hb10, ty108, ty31, sgraph_Graph, ty37, iia_sim (f := eS eInt) ty31 rfl ty37 kx2 rfl, row_sim (f := eS eInt) kx2, ty3, iia_sim (f := eInt) ty37 rfl ty3 kx3 rfl, row_sim (f := eInt) kx3, reduceLT, reduceEqDiff, reduceAdd, reduceLeDiff, reduceMul, Int.reduceEq] <;> rfl, by simp only [SB, f5, KHF kh9, hb9, hb8, hb10, ty108, ty31, sgraph_Graph, ty37, iia_sim (f := eS eInt) ty31 rfl ty37 kx2 rfl, row_sim (f := eS eInt) kx2, ty3, iia_sim (f := eInt) ty37 rfl ty3 kx3 rfl, row_sim (f := eInt) kx3, reduceLT, reduceEqDiff, reduceAdd, reduceLeDiff, reduceMul, Int.reduceEq] <;> rfl⟩
    ·
      rw [if_neg (by rw [hb5]; decide)] at hr1
      refine U_condF (by simp only [SB, f3, hb5, ty34, Own.len (P := Try.prog) o9 ty34 rfl, reduceLT, reduceEqDiff, reduceAdd, reduceLeDiff, reduceMul, Int.reduceEq]) ?_
      refine U_exit rfl ?_
      replace hr1 := Option.some.inj hr1
      subst hr1
      exact ⟨_, _, _, _, hl2, _, _, by simp only [SB, f3, hb5, reduceLT, reduceEqDiff, reduceAdd, reduceLeDiff, reduceMul, Int.reduceEq], by simp only [SB, f3, hb5, reduceLT, reduceEqDiff, reduceAdd, reduceLeDiff, reduceMul, Int.reduceEq], (o8.same (by simp only [SB, f3, hb5, reduceLT, reduceEqDiff, reduceAdd, reduceLeDiff, reduceMul, Int.reduceEq])), (o9.same (by simp only [SB, f3, hb5, reduceLT, reduceEqDiff, reduceAdd, reduceLeDiff, reduceMul, Int.reduceEq])), (o10.same (by simp only [SB, f3, hb5, reduceLT, reduceEqDiff, reduceAdd, reduceLeDiff, reduceMul, Int.reduceEq])), by simp only [SB, f3, hb5, ty34, Own.len (P := Try.prog) o9 ty34 rfl, reduceLT, reduceEqDiff, reduceAdd, reduceLeDiff, reduceMul, Int.reduceEq], by simp only [SB, f3, hb5, ty34, Own.len (P := Try.prog) o9 ty34 rfl, reduceLT, reduceEqDiff, reduceAdd, reduceLeDiff, reduceMul, Int.reduceEq] <;> rfl, by simp only [SB, f3, hb5, ty34, Own.len (P := Try.prog) o9 ty34 rfl, reduceLT, reduceEqDiff, reduceAdd, reduceLeDiff, reduceMul, Int.reduceEq] <;> rfl, by simp only [SB, f3, hb5, ty34, Own.len (P := Try.prog) o9 ty34 rfl, reduceLT, reduceEqDiff, reduceAdd, reduceLeDiff, reduceMul, Int.reduceEq] <;> rfl⟩
  ·
    rintro a5 H11 ⟨c7, c8, c9, out_3, rfl, v11, v12, kp5, kh10, o28, o29, o30, e18, e19, e20, e21⟩
    replace h := outE_n h
    dsimp only at h
    have f6 := And.intro f2 (And.intro e18 (And.intro e19 (And.intro e20 (And.intro e21 (And.intro (KpF kp5) ((KHF kh10)))))))
    refine U_seq ?_
    refine U_reg ?_
    simp only [SB, f6, reduceLT, reduceEqDiff, reduceAdd, reduceLeDiff, reduceMul, Int.reduceEq]
    refine hold_intro ?_
    refine U_ret ?_
    replace h := Option.some.inj h
    subst h
    refine ⟨v12, by simp only [ires, iress, Try.results82, SB, List.toList_toArray, f6, reduceLT, reduceEqDiff, reduceAdd, reduceLeDiff, reduceMul, Int.reduceEq], ?_⟩
    exact ⟨v12, rfl, by simp only [SB, f6, reduceLT, reduceEqDiff, reduceAdd, reduceLeDiff, reduceMul, Int.reduceEq], (Own.sub (D := [b_ + 50]) (o30.same (by simp only [SB, f6, reduceLT, reduceEqDiff, reduceAdd, reduceLeDiff, reduceMul, Int.reduceEq])) (by simp only [SB, reduceEqDiff]))⟩

theorem w_graph_Graph_Order {fuel : Nat} {g_1 : graph_Graph} {r0_ : List Int} (h : p_graph_Graph_Order fuel g_1 = some r0_) : Pure1 Try.prog 27 [.pim [egraph_Graph g_1] 0 0] (.sim (r0_.map eInt) false) := by
  refine Pure1_fz (all_cl (cl_pim1 cl_egraph_Graph _) all_cl0) ?_
  refine U_call 0 Try.func27 rfl (by kernel_rfl) (by simp [Try.ntmps27]) ?_
  rw [Try.ntmps27]
  refine U_at (fun a' H' => a'.n = 12 ∧ a'.b = 0 ∧ a'.get 0 = .pim [egraph_Graph g_1] 0 0) ⟨rfl, rfl, rfl⟩ ?_
  rintro a0 H0 ⟨hn0, hn1, e1⟩
  unfold p_graph_Graph_Order at h
  have f1 := And.intro hn0 (And.intro hn1 (e1))
  refine U_seq ?_
  refine U_reg ?_
  simp only [SB, f1, reduceLT, reduceEqDiff, reduceAdd, reduceLeDiff, reduceMul, Int.reduceEq]
  refine hold_intro ?_
  refine U_seq ?_
  refine U_seq ?_
  obtain ⟨r1, kr1, h⟩ := bndO h
  refine U_reg ?_
  simp only [SB, f1, reduceLT, reduceEqDiff, reduceAdd, reduceLeDiff, reduceMul, Int.reduceEq]
  refine callP (w_graph_Graph_Len kr1) ?_
  simp only [SB, f1, reduceLT, reduceEqDiff, reduceAdd, reduceLeDiff, reduceMul, Int.reduceEq]
  refine hold_intro ?_
  rcases Bool.eq_false_or_eq_true (decide (r1 = 0)) with hb1 | hb1
  ·
    rw [if_pos hb1] at h
    refine U_condT (by simp only [SB, f1, hb1, reduceLT, reduceEqDiff, reduceAdd, reduceLeDiff, reduceMul, Int.reduceEq]) ?_
    refine U_seq ?_
    refine U_reg ?_
    simp only [SB, f1, hb1, reduceLT, reduceEqDiff, reduceAdd, reduceLeDiff, reduceMul, Int.reduceEq]
    refine hold_intro ?_
    refine U_ret ?_
    replace h := Option.some.inj h
    subst h
    refine ⟨.nils, by simp only [ires, iress, Try.results27, SB, List.toList_toArray, f1, hb1, reduceLT, reduceEqDiff, reduceAdd, reduceLeDiff, reduceMul, Int.reduceEq], ?_⟩
    exact .nils
  ·
    rw [if_neg (by rw [hb1]; decide)] at h
    refine U_condF (by simp only [SB, f1, hb1, reduceLT, reduceEqDiff, reduceAdd, reduceLeDiff, reduceMul, Int.reduceEq]) ?_
    refine U_skip ?_
    refine U_seq ?_
    obtain ⟨r2, kr2, h⟩ := bndO h
    refine U_reg ?_
    simp only [SB, f1, hb1, reduceLT, reduceEqDiff, reduceAdd, reduceLeDiff, reduceMul, Int.reduceEq]
    refine callH (w_graph_Graph_post_own0 (22)  kr2  ) ?_
    rintro v1 H1 ⟨_, rfl, kh1, o1⟩
    try simp only [Nat.add_assoc, reduceAdd] at kh1 o1
    try simp only [Nat.add_assoc, reduceAdd]
    simp only [SB, f1, hb1, KHF kh1, reduceLT, reduceEqDiff, reduceAdd, reduceLeDiff, reduceMul, Int.reduceEq]
    refine hold_intro ?_
    refine U_seq ?_
    obtain ⟨m1, km1, h⟩ := bndO h
    refine U_reg ?_
    simp only [SB, f1, hb1, KHF kh1, reduceLT, reduceEqDiff, reduceAdd, reduceLeDiff, reduceMul, Int.reduceEq]
    refine callH (w_slices_Reverse_int_int (306) (k0q := 72) (v0q := v1) km1 (by simp only [SB, f1, hb1, KHF kh1, reduceLT, reduceEqDiff, reduceAdd, reduceLeDiff, reduceMul, Int.reduceEq]) (o1.same (by simp only [SB, f1, hb1, KHF kh1, reduceLT, reduceEqDiff, reduceAdd, reduceLeDiff, reduceMul, Int.reduceEq]))) ?_
    rintro rv2 H2 ⟨rfl, kh2, o2⟩
    try simp only [Nat.add_assoc, reduceAdd] at kh2 o2
    try simp only [Nat.add_assoc, reduceAdd]
    simp only [SB, f1, hb1, KHF kh1, KHF kh2, reduceLT, reduceEqDiff, reduceAdd, reduceLeDiff, reduceMul, Int.reduceEq]
    refine hold_intro ?_
    refine U_seq ?_
    refine U_reg ?_
    simp only [SB, f1, hb1, KHF kh1, KHF kh2, reduceLT, reduceEqDiff, reduceAdd, reduceLeDiff, reduceMul, Int.reduceEq]
    refine hold_intro ?_
    refine U_ret ?_
    replace h := Option.some.inj h
    subst h
    refine ⟨v1, by simp only [ires, iress, Try.results27, SB, List.toList_toArray, f1, hb1, KHF kh1, KHF kh2, reduceLT, reduceEqDiff, reduceAdd, reduceLeDiff, reduceMul, Int.reduceEq], ?_⟩
    exact ((o2.same (by simp only [SB, f1, hb1, KHF kh1, KHF kh2, reduceLT, reduceEqDiff, reduceAdd, reduceLeDiff, reduceMul, Int.reduceEq]))).fz (cls cl_eInt _)

theorem w_bits_Of {fuel : Nat} {nv_1 : Int} {l_1 : List Int} {r0_ : bits_Set} (h : p_bits_Of fuel nv_1 l_1 = some r0_) : Pure1 Try.prog 80 [.int .i64 nv_1, .sim (l_1.map eInt) false] (.pim [ebits_Set r0_] 0 0) := by
  refine Pure1_fz (all_cl (closed_int _ _) (all_cl (cl_map cl_eInt _) all_cl0)) ?_
  refine U_call 0 Try.func80 rfl (by kernel_rfl) (by simp [Try.ntmps80]) ?_
  rw [Try.ntmps80]
  refine U_at (fun a' H' => a'.n = 21 ∧ a'.b = 0 ∧ a'.get 0 = .int .i64 nv_1 ∧ a'.get 1 = .sim (l_1.map eInt) false) ⟨rfl, rfl, rfl, rfl⟩ ?_
  rintro a0 H0 ⟨hn0, hn1, e1, e2⟩
  unfold p_bits_Of at h
  have f1 := And.intro hn0 (And.intro hn1 (And.intro e1 (e2)))
  refine U_seq ?_
  refine U_reg ?_
  simp only [SB, f1, reduceLT, reduceEqDiff, reduceAdd, reduceLeDiff, reduceMul, Int.reduceEq]
  refine hold_intro ?_
  refine U_seq ?_
  obtain ⟨r1, kr1, h⟩ := bndO h
  refine U_reg ?_
  simp only [SB, f1, reduceLT, reduceEqDiff, reduceAdd, reduceLeDiff, reduceMul, Int.reduceEq]
  refine callH (w_bits_New_own0 (31)  kr1  ) ?_
  rintro rv1 H1 ⟨g1, v1, rfl, kh1, hb1, o1⟩
  try simp only [Nat.add_assoc, reduceAdd] at kh1 hb1 o1
  try simp only [Nat.add_assoc, reduceAdd]
  simp only [SB, f1, KHF kh1, hb1, reduceLT, reduceEqDiff, reduceAdd, reduceLeDiff, reduceMul, Int.reduceEq]
  refine hold_intro ?_
  refine U_seq ?_
  refine U_seq ?_
  refine U_reg ?_
  simp only [SB, len_sim ty37 rfl, f1, KHF kh1, hb1, reduceLT, reduceEqDiff, reduceAdd, reduceLeDiff, reduceMul, Int.reduceEq]
  refine hold_intro ?_
  refine U_at (fun a' H' => Kp [4, 5, 8, 9, 10, 11, 12] 13 a' a0 ∧ KH [41, 43] H' H0 ∧ a'.get 10 = .sim (l_1.map eInt) false ∧ a'.get 11 = .int .i64 (l_1.length : Int) ∧ a'.get 12 = .int .i64 0 ∧ a'.get 5 = .pb ⟨43, g1⟩ 0 0 ∧ Own [41] H' v1 1 (r1.words.map (eI .u64)) ∧ H'.get ⟨43, g1⟩ = some ⟨2, [[.int .i64 r1.n, v1]]⟩) ⟨by simp only [SB, f1, KHF kh1, hb1, reduceLT, reduceEqDiff, reduceAdd, reduceLeDiff, reduceMul, Int.reduceEq], by simp only [SB, f1, KHF kh1, hb1, reduceLT, reduceEqDiff, reduceAdd, reduceLeDiff, reduceMul, Int.reduceEq], by simp only [SB, f1, KHF kh1, hb1, len_sim ty37 rfl, reduceLT, reduceEqDiff, reduceAdd, reduceLeDiff, reduceMul, Int.reduceEq], by simp only [SB, f1, KHF kh1, hb1, len_sim ty37 rfl, reduceLT, reduceEqDiff, reduceAdd, reduceLeDiff, reduceMul, Int.reduceEq], by simp only [SB, f1, KHF kh1, hb1, len_sim ty37 rfl, reduceLT, reduceEqDiff, reduceAdd, reduceLeDiff, reduceMul, Int.reduceEq], by simp only [SB, f1, KHF kh1, hb1, len_sim ty37 rfl, reduceLT, reduceEqDiff, reduceAdd, reduceLeDiff, reduceMul, Int.reduceEq], (o1.same (by simp only [SB, f1, KHF kh1, hb1, reduceLT, reduceEqDiff, reduceAdd, reduceLeDiff, reduceMul, Int.reduceEq])), by simp only [SB, f1, KHF kh1, hb1, len_sim ty37 rfl, reduceLT, reduceEqDiff, reduceAdd, reduceLeDiff, reduceMul, Int.reduceEq] <;> rfl⟩ ?_
  rintro a1 H2 ⟨kp1, kh2, e3, e4, e5, e6, o3, e7⟩
  have f2 := And.intro f1 (And.intro (KHF kh1) (And.intro hb1 (And.intro (KpF kp1) (And.intro (KHF kh2) (And.intro e3 (And.intro e4 (And.intro e5 (And.intro e6 (e7)))))))))
  obtain ⟨u1, he1, h⟩ := bndE h
  refine U_cut (fun a' H' => ∃ c3 : Int, ∃ c4 : List Int, ∃ x_2 : Int, u1 = .n (c3, c4, x_2) ∧ Kp [7, 12] 13 a' a1 ∧ KH [41, 43] H' H2 ∧ Own [41] H' v1 1 (c4.map (eI .u64)) ∧ a'.get 12 = .int .i64 x_2 ∧ H'.get ⟨43, g1⟩ = some ⟨2, [[.int .i64 c3, v1]]⟩) (U_block (U_loop (fun y a' H' => match y with | (m1, c3, c4, x_2) => loopE m1 (fun s => p_bits_Of_b1 fuel l_1 s.1 s.2.1 s.2.2) (c3, c4, x_2) = some u1 ∧ Kp [7, 12] 13 a' a1 ∧ KH [41, 43] H' H2 ∧ Own [41] H' v1 1 (c4.map (eI .u64)) ∧ a'.get 12 = .int .i64 x_2 ∧ H'.get ⟨43, g1⟩ = some ⟨2, [[.int .i64 c3, v1]]⟩ : (Nat × Int × (List Int) × Int) → Fr → Heap → Prop) (fun y : Nat × Int × (List Int) × Int => y.1) (fuel, r1.n, r1.words, 0) ?_ ?_)) ?_
  · exact ⟨he1, by simp only [SB, f2, reduceLT, reduceEqDiff, reduceAdd, reduceLeDiff, reduceMul, Int.reduceEq], by simp only [SB, f2, reduceLT, reduceEqDiff, reduceAdd, reduceLeDiff, reduceMul, Int.reduceEq], (o3.same (by simp only [SB, f2, reduceLT, reduceEqDiff, reduceAdd, reduceLeDiff, reduceMul, Int.reduceEq])), by simp only [SB, f2, len_sim ty37 rfl, reduceLT, reduceEqDiff, reduceAdd, reduceLeDiff, reduceMul, Int.reduceEq], by simp only [SB, f2, len_sim ty37 rfl, reduceLT, reduceEqDiff, reduceAdd, reduceLeDiff, reduceMul, Int.reduceEq] <;> rfl⟩
  ·
    rintro ⟨m1, c3, c4, x_2⟩ a2 H3 ⟨hf2, kp2, kh3, o4, e8, e9⟩
    obtain ⟨m1', m1_lt, u2, hr1, hl2⟩ := loopE_step hf2
    replace hr1 : p_bits_Of_b1 fuel l_1 c3 c4 x_2 = some u2 := hr1
    unfold p_bits_Of_b1 at hr1
    have f3 := And.intro f2 (And.intro e8 (And.intro e9 (And.intro (KpF kp2) ((KHF kh3)))))
    refine U_seq ?_
    refine U_reg ?_
    simp only [SB, f3, reduceLT, reduceEqDiff, reduceAdd, reduceLeDiff, reduceMul, Int.reduceEq]
    refine hold_intro ?_
    refine U_seq ?_
    rcases Bool.eq_false_or_eq_true (decide (x_2 < (l_1.length : Int))) with hb2 | hb2
    ·
      rw [if_pos hb2] at hr1
      refine U_condT (by simp only [SB, f3, hb2, reduceLT, reduceEqDiff, reduceAdd, reduceLeDiff, reduceMul, Int.reduceEq]) ?_
      refine U_skip ?_
      refine U_seq ?_
      refine U_block ?_
      refine U_seq ?_
      obtain ⟨x1, kx1, hr1⟩ := bndO hr1
      refine U_reg ?_
      simp only [SB, ty37, ty3, iia_sim (f := eInt) ty37 rfl ty3 kx1 rfl, row_sim (f := eInt) kx1, f3, hb2, reduceLT, reduceEqDiff, reduceAdd, reduceLeDiff, reduceMul, Int.reduceEq]
      refine hold_intro ?_
      obtain ⟨⟨r2, m2⟩, kr2, hr1⟩ := bndO hr1
      dsimp only at hr1
      refine U_reg ?_
      simp only [SB, f3, hb2, reduceLT, reduceEqDiff, reduceAdd, reduceLeDiff, reduceMul, Int.reduceEq]
      refine callH (w_bits_Set_Add (64) (k0q := 43) (g0q := g1) (k0_1q := 41) (v0_1q := v1) kr2 (by simp only [SB, f3, hb2, reduceLT, reduceEqDiff, reduceAdd, reduceLeDiff, reduceMul, Int.reduceEq]) (by simp only [SB, f3, hb2, reduceLT, reduceEqDiff, reduceAdd, reduceLeDiff, reduceMul, Int.reduceEq]) (by simp only [SB, f3, hb2, reduceLT, reduceEqDiff, reduceAdd, reduceLeDiff, reduceMul, Int.reduceEq] <;> rfl) (o4.same (by simp only [SB, f3, hb2, reduceLT, reduceEqDiff, reduceAdd, reduceLeDiff, reduceMul, Int.reduceEq]))) ?_
      rintro rv2 H4 ⟨rfl, kh4, hb3, o5⟩
      try simp only [Nat.add_assoc, reduceAdd] at kh4 hb3 o5
      try simp only [Nat.add_assoc, reduceAdd]
      simp only [SB, f3, hb2, KHF kh4, hb3, reduceLT, reduceEqDiff, reduceAdd, reduceLeDiff, reduceMul, Int.reduceEq]
      refine hold_intro ?_
      refine U_reg ?_
      simp only [SB, f3, hb2, KHF kh4, hb3, reduceLT, reduceEqDiff, reduceAdd, reduceLeDiff, reduceMul, Int.reduceEq]
      refine hold_intro ?_
      replace hr1 := Option.some.inj hr1
      subst hr1
      exact ⟨(m1', m2.n, m2.words, IntKind.wrap .i64 (x_2 + 1)), m1_lt, hl2, by simp only [SB, f3, hb2, KHF kh4, hb3, reduceLT, reduceEqDiff, reduceAdd, reduceLeDiff, reduceMul, Int.reduceEq], by simp only [SB, f3, hb2, KHF kh4, hb3, reduceLT, reduceEqDiff, reduceAdd, reduceLeDiff, reduceMul, Int.reduceEq], (o5.same (by simp only [SB, f3, hb2, KHF kh4, hb3, reduceLT, reduceEqDiff, reduceAdd, reduceLeDiff, reduceMul, Int.reduceEq])), by simp only [SB, f3, hb2, KHF kh4, hb3, reduceLT, reduceEqDiff, reduceAdd, reduceLeDiff, reduceMul, Int.reduceEq], by simp only [SB, f3, hb2, KHF kh4, hb3, reduceLT, reduceEqDiff, reduceAdd, reduceLeDiff, reduceMul, Int.reduceEq] <;> rfl⟩
    ·
      rw [if_neg (by rw [hb2]; decide)] at hr1
      refine U_condF (by simp only [SB, f3, hb2, reduceLT, reduceEqDiff, reduceAdd, reduceLeDiff, reduceMul, Int.reduceEq]) ?_
      refine U_exit rfl ?_
      replace hr1 := Option.some.inj hr1
      subst hr1
      exact ⟨_, _, _, hl2, by simp only [SB, f3, hb2, reduceLT, reduceEqDiff, reduceAdd, reduceLeDiff, reduceMul, Int.reduceEq], by simp only [SB, f3, hb2, reduceLT, reduceEqDiff, reduceAdd, reduceLeDiff, reduceMul, Int.reduceEq], (o4.same (by simp only [SB, f3, hb2, reduceLT, reduceEqDiff, reduceAdd, reduceLeDiff, reduceMul, Int.reduceEq])), by simp only [SB, f3, hb2, reduceLT, reduceEqDiff, reduceAdd, reduceLeDiff, reduceMul, Int.reduceEq], by simp only [SB, f3, hb2, reduceLT, reduceEqDiff, reduceAdd, reduceLeDiff, reduceMul, Int.reduceEq] <;> rfl⟩
  ·
    rintro a3 H5 ⟨c5, c6, x_3, rfl, kp3, kh5, o6, e11, e12⟩
    replace h := outE_n h
    dsimp only at h
    have f4 := And.intro f2 (And.intro e11 (And.intro e12 (And.intro (KpF kp3) ((KHF kh5)))))
    refine U_seq ?_
    refine U_reg ?_
    simp only [SB, f4, reduceLT, reduceEqDiff, reduceAdd, reduceLeDiff, reduceMul, Int.reduceEq]
    refine hold_intro ?_
    refine U_ret ?_
    replace h := Option.some.inj h
    subst h
    refine ⟨.pb ⟨43, g1⟩ 0 0, by simp only [ires, iress, Try.results80, SB, List.toList_toArray, f4, reduceLT, reduceEqDiff, reduceAdd, reduceLeDiff, reduceMul, Int.reduceEq], ?_⟩
    exact Fz_box (by simp only [SB, f4, reduceLT, reduceEqDiff, reduceAdd, reduceLeDiff, reduceMul, Int.reduceEq] <;> rfl) (.cons (.cl (closed_int _ _)) (.cons (((o6.same (by simp only [SB, f4, reduceLT, reduceEqDiff, reduceAdd, reduceLeDiff, reduceMul, Int.reduceEq]))).fz (cls (cl_eI .u64) _)) (.nil)))

theorem w_graph_Graph_Reached {fuel : Nat} {g_1 : graph_Graph} {r0_ : bits_Set} (h : p_graph_Graph_Reached fuel g_1 = some r0_) : Pure1 Try.prog 25 [.pim [egraph_Graph g_1] 0 0] (.pim [ebits_Set r0_] 0 0) := by
  refine Pure1_fz (all_cl (cl_pim1 cl_egraph_Graph _) all_cl0) ?_
  refine U_call 0 Try.func25 rfl (by kernel_rfl) (by simp [Try.ntmps25]) ?_
  rw [Try.ntmps25]
  refine U_at (fun a' H' => a'.n = 8 ∧ a'.b = 0 ∧ a'.get 0 = .pim [egraph_Graph g_1] 0 0) ⟨rfl, rfl, rfl⟩ ?_
  rintro a0 H0 ⟨hn0, hn1, e1⟩
  unfold p_graph_Graph_Reached at h
  have f1 := And.intro hn0 (And.intro hn1 (e1))
  refine U_seq ?_
  refine U_reg ?_
  simp only [SB, f1, reduceLT, reduceEqDiff, reduceAdd, reduceLeDiff, reduceMul, Int.reduceEq]
  refine hold_intro ?_
  refine U_seq ?_
  obtain ⟨r1, kr1, h⟩ := bndO h
  obtain ⟨r2, kr2, h⟩ := bndO h
  obtain ⟨r3, kr3, h⟩ := bndO h
  refine U_reg ?_
  simp only [SB, f1, reduceLT, reduceEqDiff, reduceAdd, reduceLeDiff, reduceMul, Int.reduceEq]
  refine callP (w_graph_Graph_Len kr1) ?_
  simp only [SB, f1, reduceLT, reduceEqDiff, reduceAdd, reduceLeDiff, reduceMul, Int.reduceEq]
  refine callP (w_graph_Graph_Order kr2) ?_
  simp only [SB, f1, reduceLT, reduceEqDiff, reduceAdd, reduceLeDiff, reduceMul, Int.reduceEq]
  refine callP (w_bits_Of kr3) ?_
  simp only [SB, f1, reduceLT, reduceEqDiff, reduceAdd, reduceLeDiff, reduceMul, Int.reduceEq]
  refine hold_intro ?_
  refine U_ret ?_
  replace h := Option.some.inj h
  subst h
  refine ⟨.pim [ebits_Set r3] 0 0, by simp only [ires, iress, Try.results25, SB, List.toList_toArray, f1, reduceLT, reduceEqDiff, reduceAdd, reduceLeDiff, reduceMul, Int.reduceEq], ?_⟩
  exact .cl (cl_pim1 cl_ebits_Set _)

theorem w_math_bits_OnesCount64 {fuel : Nat} {x_1 : Int} {r0_ : Int} (h : p_math_bits_OnesCount64 fuel x_1 = some r0_) : Pure1 Try.prog 123 [.int .u64 x_1] (.int .i64 r0_) := by
  refine Pure1_fz (all_cl (closed_int _ _) all_cl0) ?_
  refine U_call 0 Try.func123 rfl (by kernel_rfl) (by simp [Try.ntmps123]) ?_
  rw [Try.ntmps123]
  refine U_at (fun a' H' => a'.n = 35 ∧ a'.b = 0 ∧ a'.get 0 = .int .u64 x_1) ⟨rfl, rfl, rfl⟩ ?_
  rintro a0 H0 ⟨hn0, hn1, e1⟩
  unfold p_math_bits_OnesCount64 at h
  have f1 := And.intro hn0 (And.intro hn1 (e1))
  refine U_seq ?_
  refine U_reg ?_
  simp only [SB, f1, reduceLT, reduceEqDiff, reduceAdd, reduceLeDiff, reduceMul, Int.reduceEq]
  refine hold_intro ?_
  refine U_seq ?_
  obtain ⟨x1, kx1, h⟩ := bndO h
  refine U_reg ?_
  simp only [SB, bin_shr' kx1, f1, reduceLT, reduceEqDiff, reduceAdd, reduceLeDiff, reduceMul, Int.reduceEq]
  refine hold_intro ?_
  refine U_seq ?_
  obtain ⟨x2, kx2, h⟩ := bndO h
  refine U_reg ?_
  simp only [SB, bin_shr' kx2, f1, reduceLT, reduceEqDiff, reduceAdd, reduceLeDiff, reduceMul, Int.reduceEq]
  refine hold_intro ?_
  refine U_seq ?_
  obtain ⟨x3, kx3, h⟩ := bndO h
  refine U_reg ?_
  simp only [SB, bin_shr' kx3, f1, reduceLT, reduceEqDiff, reduceAdd, reduceLeDiff, reduceMul, Int.reduceEq]
  refine hold_intro ?_
  refine U_seq ?_
  obtain ⟨x4, kx4, h⟩ := bndO h
  refine U_reg ?_
  simp only [SB, bin_shr' kx4, f1, reduceLT, reduceEqDiff, reduceAdd, reduceLeDiff, reduceMul, Int.reduceEq]
  refine hold_intro ?_
  refine U_seq ?_
  obtain ⟨x5, kx5, h⟩ := bndO h
  refine U_reg ?_
  simp only [SB, bin_shr' kx5, f1, reduceLT, reduceEqDiff, reduceAdd, reduceLeDiff, reduceMul, Int.reduceEq]
  refine hold_intro ?_
  refine U_seq ?_
  obtain ⟨x6, kx6, h⟩ := bndO h
  refine U_reg ?_
  simp only [SB, bin_shr' kx6, f1, reduceLT, reduceEqDiff, reduceAdd, reduceLeDiff, reduceMul, Int.reduceEq]
  refine hold_intro ?_
  refine U_seq ?_
  refine U_reg ?_
  simp only [SB, conv_int ty114 ty3 rfl, f1, reduceLT, reduceEqDiff, reduceAdd, reduceLeDiff, reduceMul, Int.reduceEq]
  refine hold_intro ?_
  refine U_ret ?_
  replace h := Option.some.inj h
  subst h
  refine ⟨.int .i64 (band .i64 (IntKind.wrap .i64 (IntKind.wrap .u64 ((IntKind.wrap .u64 ((IntKind.wrap .u64 ((band .u64 (IntKind.wrap .u64 (x3 + (IntKind.wrap .u64 ((band .u64 x2 3689348814741910323) + (band .u64 (IntKind.wrap .u64 ((band .u64 x1 6148914691236517205) + (band .u64 x_1 6148914691236517205))) 3689348814741910323))))) 1085102592571150095) + x4)) + x5)) + x6))) 127), by simp only [ires, iress, Try.results123, SB, List.toList_toArray, conv_int ty114 ty3 rfl, f1, reduceLT, reduceEqDiff, reduceAdd, reduceLeDiff, reduceMul, Int.reduceEq], ?_⟩
  exact .cl (closed_int _ _)

theorem w_bits_Set_Count {fuel : Nat} {s_1 : bits_Set} {r0_ : Int} (h : p_bits_Set_Count fuel s_1 = some r0_) : Pure1 Try.prog 72 [.pim [ebits_Set s_1] 0 0] (.int .i64 r0_) := by
  refine Pure1_fz (all_cl (cl_pim1 cl_ebits_Set _) all_cl0) ?_
  refine U_call 0 Try.func72 rfl (by kernel_rfl) (by simp [Try.ntmps72]) ?_
  rw [Try.ntmps72]
  refine U_at (fun a' H' => a'.n = 23 ∧ a'.b = 0 ∧ a'.get 0 = .pim [ebits_Set s_1] 0 0) ⟨rfl, rfl, rfl⟩ ?_
  rintro a0 H0 ⟨hn0, hn1, e1⟩
  unfold p_bits_Set_Count at h
  have f1 := And.intro hn0 (And.intro hn1 (e1))
  refine U_seq ?_
  refine U_reg ?_
  simp only [SB, f1, reduceLT, reduceEqDiff, reduceAdd, reduceLeDiff, reduceMul, Int.reduceEq]
  refine hold_intro ?_
  refine U_seq ?_
  refine U_seq ?_
  refine U_reg ?_
  simp only [SB, ty44, nil_cmp (P := Try.prog) ty44 rfl, f1, reduceLT, reduceEqDiff, reduceAdd, reduceLeDiff, reduceMul, Int.reduceEq]
  refine hold_intro ?_
  refine U_condF (by simp only [SB, f1, reduceLT, reduceEqDiff, reduceAdd, reduceLeDiff, reduceMul, Int.reduceEq]) ?_
  refine U_skip ?_
  refine U_seq ?_
  refine U_reg ?_
  simp only [SB, f1, reduceLT, reduceEqDiff, reduceAdd, reduceLeDiff, reduceMul, Int.reduceEq]
  refine hold_intro ?_
  refine U_seq ?_
  refine U_seq ?_
  refine U_reg ?_
  simp only [SB, ty117, ty115, sbits_Set, len_sim ty115 rfl, f1, reduceLT, reduceEqDiff, reduceAdd, reduceLeDiff, reduceMul, Int.reduceEq]
  refine hold_intro ?_
  refine U_at (fun a' H' => Kp [2, 3, 6, 7, 8, 9, 10, 11, 12, 13] 14 a' a0 ∧ H0 = H' ∧ a'.get 11 = .sim (s_1.words.map (eI .u64)) false ∧ a'.get 12 = .int .i64 (s_1.words.length : Int) ∧ a'.get 13 = .int .i64 0 ∧ a'.get 3 = .int .i64 0) ⟨by simp only [SB, f1, reduceLT, reduceEqDiff, reduceAdd, reduceLeDiff, reduceMul, Int.reduceEq], rfl, by simp only [SB, f1, ty117, ty115, sbits_Set, len_sim ty115 rfl, reduceLT, reduceEqDiff, reduceAdd, reduceLeDiff, reduceMul, Int.reduceEq], by simp only [SB, f1, ty117, ty115, sbits_Set, len_sim ty115 rfl, reduceLT, reduceEqDiff, reduceAdd, reduceLeDiff, reduceMul, Int.reduceEq], by simp only [SB, f1, ty117, ty115, sbits_Set, len_sim ty115 rfl, reduceLT, reduceEqDiff, reduceAdd, reduceLeDiff, reduceMul, Int.reduceEq], by simp only [SB, f1, ty117, ty115, sbits_Set, len_sim ty115 rfl, reduceLT, reduceEqDiff, reduceAdd, reduceLeDiff, reduceMul, Int.reduceEq]⟩ ?_
  rintro a1 H1 ⟨kp1, rfl, e2, e3, e4, e5⟩
  have f2 := And.intro f1 (And.intro (KpF kp1) (And.intro e2 (And.intro e3 (And.intro e4 (e5)))))
  obtain ⟨u1, he1, h⟩ := bndE h
  refine U_cut (fun a' H' => ∃ x_2 : Int, ∃ nv_2 : Int, u1 = .n (x_2, nv_2) ∧ Kp [3, 5, 13] 14 a' a1 ∧ KH [] H' H0 ∧ a'.get 13 = .int .i64 x_2 ∧ a'.get 3 = .int .i64 nv_2) (U_block (U_loop (fun y a' H' => match y with | (m1, x_2, nv_2) => loopE m1 (fun s => p_bits_Set_Count_b1 fuel s_1 s.1 s.2) (x_2, nv_2) = some u1 ∧ Kp [3, 5, 13] 14 a' a1 ∧ KH [] H' H0 ∧ a'.get 13 = .int .i64 x_2 ∧ a'.get 3 = .int .i64 nv_2 : (Nat × Int × Int) → Fr → Heap → Prop) (fun y : Nat × Int × Int => y.1) (fuel, 0, 0) ?_ ?_)) ?_
  · exact ⟨he1, by simp only [SB, f2, reduceLT, reduceEqDiff, reduceAdd, reduceLeDiff, reduceMul, Int.reduceEq], by simp only [SB, f2, reduceLT, reduceEqDiff, reduceAdd, reduceLeDiff, reduceMul, Int.reduceEq], by simp only [SB, f2, ty117, ty115, sbits_Set, len_sim ty115 rfl, reduceLT, reduceEqDiff, reduceAdd, reduceLeDiff, reduceMul, Int.reduceEq], by simp only [SB, f2, ty117, ty115, sbits_Set, len_sim ty115 rfl, reduceLT, reduceEqDiff, reduceAdd, reduceLeDiff, reduceMul, Int.reduceEq]⟩
  ·
    rintro ⟨m1, x_2, nv_2⟩ a2 H2 ⟨hf2, kp2, kh1, e6, e7⟩
    obtain ⟨m1', m1_lt, u2, hr1, hl2⟩ := loopE_step hf2
    replace hr1 : p_bits_Set_Count_b1 fuel s_1 x_2 nv_2 = some u2 := hr1
    unfold p_bits_Set_Count_b1 at hr1
    have f3 := And.intro f2 (And.intro e6 (And.intro e7 (And.intro (KpF kp2) ((KHF kh1)))))
    refine U_seq ?_
    refine U_reg ?_
    simp only [SB, f3, reduceLT, reduceEqDiff, reduceAdd, reduceLeDiff, reduceMul, Int.reduceEq]
    refine hold_intro ?_
    refine U_seq ?_
    rcases Bool.eq_false_or_eq_true (decide (x_2 < (s_1.words.length : Int))) with hb2 | hb2
    ·
      rw [if_pos hb2] at hr1
      refine U_condT (by simp only [SB, f3, hb2, reduceLT, reduceEqDiff, reduceAdd, reduceLeDiff, reduceMul, Int.reduceEq]) ?_
      refine U_skip ?_
      refine U_seq ?_
      refine U_block ?_
      refine U_seq ?_
      obtain ⟨x1, kx1, hr1⟩ := bndO hr1
      refine U_reg ?_
      simp only [SB, ty115, ty114, iia_sim (f := eI .u64) ty115 rfl ty114 kx1 rfl, row_sim (f := eI .u64) kx1, f3, hb2, reduceLT, reduceEqDiff, reduceAdd, reduceLeDiff, reduceMul, Int.reduceEq]
      refine hold_intro ?_
      obtain ⟨r1, kr1, hr1⟩ := bndO hr1
      refine U_reg ?_
      simp only [SB, f3, hb2, reduceLT, reduceEqDiff, reduceAdd, reduceLeDiff, reduceMul, Int.reduceEq]
      refine callP (w_math_bits_OnesCount64 kr1) ?_
      simp only [SB, f3, hb2, reduceLT, reduceEqDiff, reduceAdd, reduceLeDiff, reduceMul, Int.reduceEq]
      refine hold_intro ?_
      refine U_reg ?_
      simp only [SB, f3, hb2, reduceLT, reduceEqDiff, reduceAdd, reduceLeDiff, reduceMul, Int.reduceEq]
      refine hold_intro ?_
      replace hr1 := Option.some.inj hr1
      subst hr1
      exact ⟨(m1', IntKind.wrap .i64 (x_2 + 1), IntKind.wrap .i64 (nv_2 + r1)), m1_lt, hl2, by simp only [SB, f3, hb2, reduceLT, reduceEqDiff, reduceAdd, reduceLeDiff, reduceMul, Int.reduceEq], by simp only [SB, f3, hb2, reduceLT, reduceEqDiff, reduceAdd, reduceLeDiff, reduceMul, Int.reduceEq], by simp only [SB, f3, hb2, reduceLT, reduceEqDiff, reduceAdd, reduceLeDiff, reduceMul, Int.reduceEq], by simp only [SB, f3, hb2, reduceLT, reduceEqDiff, reduceAdd, reduceLeDiff, reduceMul, Int.reduceEq]⟩
    ·
      rw [if_neg (by rw [hb2]; decide)] at hr1
      refine U_condF (by simp only [SB, f3, hb2, reduceLT, reduceEqDiff, reduceAdd, reduceLeDiff, reduceMul, Int.reduceEq]) ?_
      refine U_exit rfl ?_
      replace hr1 := Option.some.inj hr1
      subst hr1
      exact ⟨_, _, hl2, by simp only [SB, f3, hb2, reduceLT, reduceEqDiff, reduceAdd, reduceLeDiff, reduceMul, Int.reduceEq], by simp only [SB, f3, hb2, reduceLT, reduceEqDiff, reduceAdd, reduceLeDiff, reduceMul, Int.reduceEq], by simp only [SB, f3, hb2, reduceLT, reduceEqDiff, reduceAdd, reduceLeDiff, reduceMul, Int.reduceEq], by simp only [SB, f3, hb2, reduceLT, reduceEqDiff, reduceAdd, reduceLeDiff, reduceMul, Int.reduceEq]⟩
  ·
    rintro a3 H3 ⟨x_3, nv_3, rfl, kp3, kh2, e9, e10⟩
    replace h := outE_n h
    dsimp only at h
    have f4 := And.intro f2 (And.intro e9 (And.intro e10 (And.intro (KpF kp3) ((KHF kh2)))))
    refine U_seq ?_
    refine U_reg ?_
    simp only [SB, f4, reduceLT, reduceEqDiff, reduceAdd, reduceLeDiff, reduceMul, Int.reduceEq]
    refine hold_intro ?_
    refine U_ret ?_
    replace h := Option.some.inj h
    subst h
    refine ⟨.int .i64 nv_3, by simp only [ires, iress, Try.results72, SB, List.toList_toArray, f4, reduceLT, reduceEqDiff, reduceAdd, reduceLeDiff, reduceMul, Int.reduceEq], ?_⟩
    exact .cl (closed_int _ _)

theorem w_slices_Sort_int_int (b_ : Nat) {fuel : Nat} {l m0_ : List Int} (h : p_slices_Sort_int_int fuel l = some m0_) {k0q : Nat} {v0q : IV} {H : Heap} (ha0 : k0q ∉ []) (o0q : Own [k0q] H v0q 1 (l.map eInt)) : CallW Try.prog 78 [v0q] H (fun rv H' => rv = (.tup [] : IV) ∧ KH [k0q] H' H ∧ Own [k0q] H' v0q 1 (m0_.map eInt)) := by
  unfold p_slices_Sort_int_int at h
  split at h
  · cases h
    exact sort_callW Try.slices_Sort_int Try.slices_Sort_int_none ⟨_, Try.func78, rfl, by decide +kernel⟩ (by omega) o0q
  · cases h

theorem w_graph_Graph_list_own0 (b_ : Nat) {fuel : Nat} {g_1 : graph_Graph} {i_1 : Int} {which_1 : Int} {r0_ : List Int} (h : p_graph_Graph_list fuel g_1 i_1 which_1 = some r0_)  {H : Heap}   : CallW Try.prog 79 [.pim [egraph_Graph g_1] 0 0, .int .i64 i_1, .int .i64 which_1] H (fun rv H' => ∃ w0_ : IV, rv = (w0_ : IV) ∧ KH [b_ + 45, b_ + 47] H' H ∧ Own [b_ + 45, b_ + 47] H' w0_ 1 (r0_.map eInt)) := by
  refine U_call b_ Try.func79 rfl (by kernel_rfl) (by simp [Try.ntmps79]) ?_
  rw [Try.ntmps79]
  refine U_at (fun a' H' => H = H' ∧ a'.n = 30 ∧ a'.b = b_ ∧ a'.get 0 = .pim [egraph_Graph g_1] 0 0 ∧ a'.get 1 = .int .i64 i_1 ∧ a'.get 2 = .int .i64 which_1) ⟨rfl, rfl, rfl, rfl, rfl, rfl⟩ ?_
  rintro a0 H0 ⟨rfl, hn0, hn1, e1, e2, e3⟩
  unfold p_graph_Graph_list at h
  have f1 := And.intro hn0 (And.intro hn1 (And.intro e1 (And.intro e2 (e3))))
  refine U_seq ?_
  refine U_reg ?_
  simp only [SB, f1, reduceLT, reduceEqDiff, reduceAdd, reduceLeDiff, reduceMul, Int.reduceEq]
  refine hold_intro ?_
  refine U_seq ?_
  refine U_seq ?_
  refine U_at (fun a' H' => Kp [6] 7 a' a0 ∧ H = H') ⟨by simp only [SB, f1, reduceLT, reduceEqDiff, reduceAdd, reduceLeDiff, reduceMul, Int.reduceEq], rfl⟩ ?_
  rintro a1 H1 ⟨kp1, rfl⟩
  obtain ⟨b1, kb1, h⟩ := bndO h
  refine U_cut (fun a' H' => H = H' ∧ Kp [] 7 a' a1 ∧ a'.get 14 = .bool b1) ?_ ?_
  · refine U_reg ?_
    rcases Bool.eq_false_or_eq_true (decide (i_1 < 0)) with hb1 | hb1
    ·
      have hx1 := hb1
      rw [if_pos hx1] at kb1
      have hq1 := (Option.some.inj kb1).symm
      simp only [SB, hb1, hq1, f1, KpF kp1, reduceLT, reduceEqDiff, reduceAdd, reduceLeDiff, reduceMul, Int.reduceEq]
      refine hold_intro ?_
      exact ⟨rfl, by simp only [SB, f1, KpF kp1, reduceLT, reduceEqDiff, reduceAdd, reduceLeDiff, reduceMul, Int.reduceEq], by simp only [SB, f1, KpF kp1, hb1, hq1, reduceLT, reduceEqDiff, reduceAdd, reduceLeDiff, reduceMul, Int.reduceEq]⟩
    ·
      have hx2 := hb1
      rw [if_neg (by rw [hx2]; decide)] at kb1
      obtain ⟨r1, kr1, kb1⟩ := bndO kb1
      have hq2 := (Option.some.inj kb1).symm
      simp only [SB, hb1, hq2, f1, KpF kp1, reduceLT, reduceEqDiff, reduceAdd, reduceLeDiff, reduceMul, Int.reduceEq]
      refine callP (w_graph_Graph_Len kr1) ?_
      simp only [SB, hb1, hq2, f1, KpF kp1, reduceLT, reduceEqDiff, reduceAdd, reduceLeDiff, reduceMul, Int.reduceEq]
      refine hold_intro ?_
      exact ⟨rfl, by simp only [SB, f1, KpF kp1, reduceLT, reduceEqDiff, reduceAdd, reduceLeDiff, reduceMul, Int.reduceEq], by simp only [SB, f1, KpF kp1, hb1, hq2, reduceLT, reduceEqDiff, reduceAdd, reduceLeDiff, reduceMul, Int.reduceEq]⟩
  · rintro a2 H2 ⟨rfl, kp2, e4⟩
    have f2 := And.intro f1 (And.intro (KpF kp1) (And.intro (KpF kp2) (e4)))
    rcases Bool.eq_false_or_eq_true (b1) with hb2 | hb2
    ·
      rw [if_pos hb2] at h
      refine U_condT (by simp only [SB, f2, hb2, reduceLT, reduceEqDiff, reduceAdd, reduceLeDiff, reduceMul, Int.reduceEq]) ?_
      refine U_seq ?_
      refine U_reg ?_
      simp only [SB, f2, hb2, reduceLT, reduceEqDiff, reduceAdd, reduceLeDiff, reduceMul, Int.reduceEq]
      refine hold_intro ?_
      refine U_ret ?_
      replace h := Option.some.inj h
      subst h
      refine ⟨.nils, by simp only [ires, iress, Try.results79, SB, List.toList_toArray, f2, hb2, reduceLT, reduceEqDiff, reduceAdd, reduceLeDiff, reduceMul, Int.reduceEq], ?_⟩
      exact ⟨.nils, rfl, by simp only [SB, f2, hb2, reduceLT, reduceEqDiff, reduceAdd, reduceLeDiff, reduceMul, Int.reduceEq], (Own.sub (D := []) Own.nil (by simp only [SB, reduceEqDiff]))⟩
    ·
      rw [if_neg (by rw [hb2]; decide)] at h
      refine U_condF (by simp only [SB, f2, hb2, reduceLT, reduceEqDiff, reduceAdd, reduceLeDiff, reduceMul, Int.reduceEq]) ?_
      refine U_skip ?_
      refine U_seq ?_
      obtain ⟨c1, kc1, h⟩ := bndO h
      obtain ⟨x1, kx1, h⟩ := bndO h
      obtain ⟨r2, kr2, h⟩ := bndO h
      refine U_draw hm false 12 (by decide +kernel) (by decide) ?_
      simp only [SB, ty108, ty31, sgraph_Graph, ty175, fk175, sA175, index_v2 (P := Try.prog) kc1 ty175 rfl ty31 rfl rfl, at_sim, ty37, iia_sim (f := eS eInt) ty31 rfl ty37 kx1 rfl, row_sim (f := eS eInt) kx1, f2, hb2, reduceLT, reduceEqDiff, reduceAdd, reduceLeDiff, reduceMul, Int.reduceEq]
      refine callH (w_slices_Clone_int_int_own (b_ + 40)  kr2  ) ?_
      rintro v1 H3 ⟨_, rfl, kh2, o1⟩
      try simp only [Nat.add_assoc, reduceAdd] at kh2 o1
      try simp only [Nat.add_assoc, reduceAdd]
      simp only [SB, ty108, ty31, sgraph_Graph, ty175, fk175, sA175, index_v2 (P := Try.prog) kc1 ty175 rfl ty31 rfl rfl, at_sim, ty37, iia_sim (f := eS eInt) ty31 rfl ty37 kx1 rfl, row_sim (f := eS eInt) kx1, f2, hb2, KHF kh2, reduceLT, reduceEqDiff, reduceAdd, reduceLeDiff, reduceMul, Int.reduceEq]
      refine hold_intro ?_
      refine U_ret ?_
      replace h := Option.some.inj h
      subst h
      refine ⟨v1, by simp only [ires, iress, Try.results79, SB, List.toList_toArray, ty108, ty31, sgraph_Graph, ty175, fk175, sA175, index_v2 (P := Try.prog) kc1 ty175 rfl ty31 rfl rfl, at_sim, ty37, iia_sim (f := eS eInt) ty31 rfl ty37 kx1 rfl, row_sim (f := eS eInt) kx1, f2, hb2, KHF kh2, reduceLT, reduceEqDiff, reduceAdd, reduceLeDiff, reduceMul, Int.reduceEq], ?_⟩
      exact ⟨v1, rfl, by simp only [SB, f2, hb2, KHF kh2, reduceLT, reduceEqDiff, reduceAdd, reduceLeDiff, reduceMul, Int.reduceEq], (Own.sub (D := [b_ + 45, b_ + 47]) (o1.same (by simp only [SB, f2, hb2, KHF kh2, reduceLT, reduceEqDiff, reduceAdd, reduceLeDiff, reduceMul, Int.reduceEq])) (by simp only [SB, reduceEqDiff]))⟩

theorem w_graph_Graph_Succ_own0 (b_ : Nat) {fuel : Nat} {g_1 : graph_Graph} {i_1 : Int} {r0_ : List Int} (h : p_graph_Graph_Succ fuel g_1 i_1 = some r0_)  {H : Heap}   : CallW Try.prog 20 [.pim [egraph_Graph g_1] 0 0, .int .i64 i_1] H (fun rv H' => ∃ w0_ : IV, rv = (w0_ : IV) ∧ KH [b_ + 63, b_ + 65] H' H ∧ Own [b_ + 63, b_ + 65] H' w0_ 1 (r0_.map eInt)) := by
  refine U_call b_ Try.func20 rfl (by kernel_rfl) (by simp [Try.ntmps20]) ?_
  rw [Try.ntmps20]
  refine U_at (fun a' H' => H = H' ∧ a'.n = 8 ∧ a'.b = b_ ∧ a'.get 0 = .pim [egraph_Graph g_1] 0 0 ∧ a'.get 1 = .int .i64 i_1) ⟨rfl, rfl, rfl, rfl, rfl⟩ ?_
  rintro a0 H0 ⟨rfl, hn0, hn1, e1, e2⟩
  unfold p_graph_Graph_Succ at h
  have f1 := And.intro hn0 (And.intro hn1 (And.intro e1 (e2)))
  refine U_seq ?_
  refine U_reg ?_
  simp only [SB, f1, reduceLT, reduceEqDiff, reduceAdd, reduceLeDiff, reduceMul, Int.reduceEq]
  refine hold_intro ?_
  refine U_seq ?_
  obtain ⟨r1, kr1, h⟩ := bndO h
  refine U_reg ?_
  simp only [SB, f1, reduceLT, reduceEqDiff, reduceAdd, reduceLeDiff, reduceMul, Int.reduceEq]
  refine callH (w_graph_Graph_list_own0 (b_ + 18)  kr1  ) ?_
  rintro v1 H1 ⟨_, rfl, kh1, o1⟩
  try simp only [Nat.add_assoc, reduceAdd] at kh1 o1
  try simp only [Nat.add_assoc, reduceAdd]
  simp only [SB, f1, KHF kh1, reduceLT, reduceEqDiff, reduceAdd, reduceLeDiff, reduceMul, Int.reduceEq]
  refine hold_intro ?_
  refine U_ret ?_
  replace h := Option.some.inj h
  subst h
  refine ⟨v1, by simp only [ires, iress, Try.results20, SB, List.toList_toArray, f1, KHF kh1, reduceLT, reduceEqDiff, reduceAdd, reduceLeDiff, reduceMul, Int.reduceEq], ?_⟩
  exact ⟨v1, rfl, by simp only [SB, f1, KHF kh1, reduceLT, reduceEqDiff, reduceAdd, reduceLeDiff, reduceMul, Int.reduceEq], (Own.sub (D := [b_ + 63, b_ + 65]) (o1.same (by simp only [SB, f1, KHF kh1, reduceLT, reduceEqDiff, reduceAdd, reduceLeDiff, reduceMul, Int.reduceEq])) (by simp only [SB, reduceEqDiff]))⟩

theorem w_graph_Graph_Edges {fuel : Nat} {g_1 : graph_Graph} {r0_ : List (A2 Int)} (h : p_graph_Graph_Edges fuel g_1 = some r0_) : Pure1 Try.prog 18 [.pim [egraph_Graph g_1] 0 0] (.sim (r0_.map (eA2 eInt)) false) := by
  refine Pure1_fz (all_cl (cl_pim1 cl_egraph_Graph _) all_cl0) ?_
  refine U_call 0 Try.func18 rfl (by kernel_rfl) (by simp [Try.ntmps18]) ?_
  rw [Try.ntmps18]
  refine U_at (fun a' H' => a'.n = 33 ∧ a'.b = 0 ∧ a'.get 0 = .pim [egraph_Graph g_1] 0 0) ⟨rfl, rfl, rfl⟩ ?_
  rintro a0 H0 ⟨hn0, hn1, e1⟩
  unfold p_graph_Graph_Edges at h
  have f1 := And.intro hn0 (And.intro hn1 (e1))
  refine U_seq ?_
  refine U_reg ?_
  simp only [SB, f1, reduceLT, reduceEqDiff, reduceAdd, reduceLeDiff, reduceMul, Int.reduceEq]
  refine hold_intro ?_
  refine U_seq ?_
  refine U_reg ?_
  simp only [SB, f1, reduceLT, reduceEqDiff, reduceAdd, reduceLeDiff, reduceMul, Int.reduceEq]
  refine hold_intro ?_
  refine U_seq ?_
  refine U_seq ?_
  obtain ⟨r1, kr1, h⟩ := bndO h
  refine U_reg ?_
  simp only [SB, f1, reduceLT, reduceEqDiff, reduceAdd, reduceLeDiff, reduceMul, Int.reduceEq]
  refine callP (w_graph_Graph_Len kr1) ?_
  simp only [SB, f1, reduceLT, reduceEqDiff, reduceAdd, reduceLeDiff, reduceMul, Int.reduceEq]
  refine hold_intro ?_
  refine U_at (fun a' H' => Kp [2, 3, 8, 9, 10] 21 a' a0 ∧ H0 = H' ∧ a'.get 10 = .int .i64 0 ∧ a'.get 3 = .nils ∧ a'.get 9 = .int .i64 r1) ⟨by simp only [SB, f1, reduceLT, reduceEqDiff, reduceAdd, reduceLeDiff, reduceMul, Int.reduceEq], rfl, by simp only [SB, f1, reduceLT, reduceEqDiff, reduceAdd, reduceLeDiff, reduceMul, Int.reduceEq], by simp only [SB, f1, reduceLT, reduceEqDiff, reduceAdd, reduceLeDiff, reduceMul, Int.reduceEq], by simp only [SB, f1, reduceLT, reduceEqDiff, reduceAdd, reduceLeDiff, reduceMul, Int.reduceEq]⟩ ?_
  rintro a1 H1 ⟨kp1, rfl, e2, e3, e4⟩
  have f2 := And.intro f1 (And.intro (KpF kp1) (And.intro e2 (And.intro e3 (e4))))
  obtain ⟨u1, he1, h⟩ := bndE h
  refine U_cut (fun a' H' => ∃ x_2 : Int, ∃ out_2 : List (A2 Int), u1 = .n (x_2, out_2) ∧ ∃ v1, Kp [3, 4, 5, 7, 10, 11, 12, 13, 14, 15, 16, 17, 18, 19, 20] 21 a' a1 ∧ KH [106, 108, 149, 28, 29] H' H0 ∧ a'.get 10 = .int .i64 x_2 ∧ Own [29] H' v1 2 (out_2.map (eA2 eInt)) ∧ a'.get 3 = v1) (U_block (U_loop (fun y a' H' => match y with | (m1, x_2, out_2) => loopE m1 (fun s => p_graph_Graph_Edges_b1 fuel g_1 r1 s.1 s.2) (x_2, out_2) = some u1 ∧ ∃ v1, Kp [3, 4, 5, 7, 10, 11, 12, 13, 14, 15, 16, 17, 18, 19, 20] 21 a' a1 ∧ KH [106, 108, 149, 28, 29] H' H0 ∧ a'.get 10 = .int .i64 x_2 ∧ Own [29] H' v1 2 (out_2.map (eA2 eInt)) ∧ a'.get 3 = v1 : (Nat × Int × (List (A2 Int))) → Fr → Heap → Prop) (fun y : Nat × Int × (List (A2 Int)) => y.1) (fuel, 0, []) ?_ ?_)) ?_
  · exact ⟨he1, _, by simp only [SB, f2, reduceLT, reduceEqDiff, reduceAdd, reduceLeDiff, reduceMul, Int.reduceEq], by simp only [SB, f2, reduceLT, reduceEqDiff, reduceAdd, reduceLeDiff, reduceMul, Int.reduceEq], by simp only [SB, f2, reduceLT, reduceEqDiff, reduceAdd, reduceLeDiff, reduceMul, Int.reduceEq], Own.nil, by simp only [SB, f2, reduceLT, reduceEqDiff, reduceAdd, reduceLeDiff, reduceMul, Int.reduceEq]⟩
  ·
    rintro ⟨m1, x_2, out_2⟩ a2 H2 ⟨hf2, v1, kp2, kh1, e5, o1, e6⟩
    obtain ⟨m1', m1_lt, u2, hr1, hl2⟩ := loopE_step hf2
    replace hr1 : p_graph_Graph_Edges_b1 fuel g_1 r1 x_2 out_2 = some u2 := hr1
    unfold p_graph_Graph_Edges_b1 at hr1
    have f3 := And.intro f2 (And.intro e5 (And.intro e6 (And.intro (KpF kp2) ((KHF kh1)))))
    refine U_seq ?_
    refine U_reg ?_
    simp only [SB, f3, reduceLT, reduceEqDiff, reduceAdd, reduceLeDiff, reduceMul, Int.reduceEq]
    refine hold_intro ?_
    refine U_seq ?_
    rcases Bool.eq_false_or_eq_true (decide (x_2 < r1)) with hb1 | hb1
    ·
      rw [if_pos hb1] at hr1
      refine U_condT (by simp only [SB, f3, hb1, reduceLT, reduceEqDiff, reduceAdd, reduceLeDiff, reduceMul, Int.reduceEq]) ?_
      refine U_skip ?_
      refine U_seq ?_
      refine U_block ?_
      refine U_seq ?_
      refine U_reg ?_
      simp only [SB, f3, hb1, reduceLT, reduceEqDiff, reduceAdd, reduceLeDiff, reduceMul, Int.reduceEq]
      refine hold_intro ?_
      refine U_seq ?_
      obtain ⟨r2, kr2, hr1⟩ := bndO hr1
      refine U_reg ?_
      simp only [SB, f3, hb1, reduceLT, reduceEqDiff, reduceAdd, reduceLeDiff, reduceMul, Int.reduceEq]
      refine callH (w_graph_Graph_Succ_own0 (43)  kr2  ) ?_
      rintro v2 H3 ⟨_, rfl, kh2, o2⟩
      try simp only [Nat.add_assoc, reduceAdd] at kh2 o2
      try simp only [Nat.add_assoc, reduceAdd]
      simp only [SB, f3, hb1, KHF kh2, reduceLT, reduceEqDiff, reduceAdd, reduceLeDiff, reduceMul, Int.reduceEq]
      refine hold_intro ?_
      refine U_seq ?_
      refine U_at (fun a' H' => Kp [4, 5, 11, 12, 13, 14, 15] 21 a' a2 ∧ KH [106, 108] H' H2 ∧ a'.get 11 = .bool (decide (x_2 < r1)) ∧ Own [29] H' v1 2 (out_2.map (eA2 eInt)) ∧ a'.get 4 = .int .i64 x_2 ∧ Own [106, 108] H' v2 1 (r2.map eInt) ∧ a'.get 5 = v2) ⟨by simp only [SB, f3, hb1, KHF kh2, reduceLT, reduceEqDiff, reduceAdd, reduceLeDiff, reduceMul, Int.reduceEq], by simp only [SB, f3, hb1, KHF kh2, reduceLT, reduceEqDiff, reduceAdd, reduceLeDiff, reduceMul, Int.reduceEq], by simp only [SB, f3, hb1, KHF kh2, reduceLT, reduceEqDiff, reduceAdd, reduceLeDiff, reduceMul, Int.reduceEq], (o1.same (by simp only [SB, f3, hb1, KHF kh2, reduceLT, reduceEqDiff, reduceAdd, reduceLeDiff, reduceMul, Int.reduceEq])), by simp only [SB, f3, hb1, KHF kh2, reduceLT, reduceEqDiff, reduceAdd, reduceLeDiff, reduceMul, Int.reduceEq], (o2.same (by simp only [SB, f3, hb1, KHF kh2, reduceLT, reduceEqDiff, reduceAdd, reduceLeDiff, reduceMul, Int.reduceEq])), by simp only [SB, f3, hb1, KHF kh2, reduceLT, reduceEqDiff, reduceAdd, reduceLeDiff, reduceMul, Int.reduceEq]⟩ ?_
      rintro a3 H4 ⟨kp3, kh3, e8, o3, e9, o4, e10⟩
      have f4 := And.intro f3 (And.intro hb1 (And.intro (KHF kh2) (And.intro (KpF kp3) (And.intro (KHF kh3) (And.intro e8 (And.intro e9 (e10)))))))
      refine U_renS (D := [106, 108]) 5 (149) (o4.same (by simp only [SB, f4, reduceLT, reduceEqDiff, reduceAdd, reduceLeDiff, reduceMul, Int.reduceEq])) (by simp only [SB, f4, reduceLT, reduceEqDiff, reduceAdd, reduceLeDiff, reduceMul, Int.reduceEq]) ?_
      intro v3 H5 o5 kh4
      refine U_at (fun a' H' => Kp [5] 21 a' a3 ∧ KH [106, 108, 149] H' H4 ∧ Own [29] H' v1 2 (out_2.map (eA2 eInt)) ∧ Own [149] H' v3 1 (r2.map eInt) ∧ a'.get 5 = v3) ⟨by simp only [SB, f4, KHF kh4, reduceLT, reduceEqDiff, reduceAdd, reduceLeDiff, reduceMul, Int.reduceEq], by simp only [SB, f4, KHF kh4, reduceLT, reduceEqDiff, reduceAdd, reduceLeDiff, reduceMul, Int.reduceEq], (o3.same (by simp only [SB, f4, KHF kh4, reduceLT, reduceEqDiff, reduceAdd, reduceLeDiff, reduceMul, Int.reduceEq])), (o5.same (by simp only [SB, f4, KHF kh4, reduceLT, reduceEqDiff, reduceAdd, reduceLeDiff, reduceMul, Int.reduceEq])), by simp only [SB, f4, KHF kh4, reduceLT, reduceEqDiff, reduceAdd, reduceLeDiff, reduceMul, Int.reduceEq]⟩ ?_
      rintro a4 H6 ⟨kp4, kh5, o6, o7, e11⟩
      have f5 := And.intro f4 (And.intro (KHF kh4) (And.intro (KpF kp4) (And.intro (KHF kh5) (e11))))
      obtain ⟨m2, km2, hr1⟩ := bndO hr1
      refine U_reg ?_
      simp only [SB, f5, reduceLT, reduceEqDiff, reduceAdd, reduceLeDiff, reduceMul, Int.reduceEq]
      refine callH (w_slices_Sort_int_int (139) (k0q := 149) (v0q := v3) km2 (by simp only [SB, f5, reduceLT, reduceEqDiff, reduceAdd, reduceLeDiff, reduceMul, Int.reduceEq]) (o7.same (by simp only [SB, f5, reduceLT, reduceEqDiff, reduceAdd, reduceLeDiff, reduceMul, Int.reduceEq]))) ?_
      rintro rv2 H7 ⟨rfl, kh6, o8⟩
      try simp only [Nat.add_assoc, reduceAdd] at kh6 o8
      try simp only [Nat.add_assoc, reduceAdd]
      simp only [SB, f5, KHF kh6, reduceLT, reduceEqDiff, reduceAdd, reduceLeDiff, reduceMul, Int.reduceEq]
      refine hold_intro ?_
      refine U_seq ?_
      refine U_reg ?_
      simp only [SB, Own.len (P := Try.prog) o8 ty37 rfl, ty37, f5, KHF kh6, reduceLT, reduceEqDiff, reduceAdd, reduceLeDiff, reduceMul, Int.reduceEq]
      refine hold_intro ?_
      refine U_at (fun a' H' => Kp [16, 17, 18, 19, 20] 21 a' a4 ∧ KH [149] H' H6 ∧ Own [149] H' v3 1 (m2.map eInt) ∧ a'.get 18 = v3 ∧ a'.get 19 = .int .i64 (m2.length : Int) ∧ a'.get 20 = .int .i64 0 ∧ Own [29] H' v1 2 (out_2.map (eA2 eInt))) ⟨by simp only [SB, f5, KHF kh6, reduceLT, reduceEqDiff, reduceAdd, reduceLeDiff, reduceMul, Int.reduceEq], by simp only [SB, f5, KHF kh6, reduceLT, reduceEqDiff, reduceAdd, reduceLeDiff, reduceMul, Int.reduceEq], (o8.same (by simp only [SB, f5, KHF kh6, reduceLT, reduceEqDiff, reduceAdd, reduceLeDiff, reduceMul, Int.reduceEq])), by simp only [SB, f5, KHF kh6, Own.len (P := Try.prog) o8 ty37 rfl, ty37, reduceLT, reduceEqDiff, reduceAdd, reduceLeDiff, reduceMul, Int.reduceEq], by simp only [SB, f5, KHF kh6, Own.len (P := Try.prog) o8 ty37 rfl, ty37, reduceLT, reduceEqDiff, reduceAdd, reduceLeDiff, reduceMul, Int.reduceEq], by simp only [SB, f5, KHF kh6, Own.len (P := Try.prog) o8 ty37 rfl, ty37, reduceLT, reduceEqDiff, reduceAdd, reduceLeDiff, reduceMul, Int.reduceEq], (o6.same (by simp only [SB, f5, KHF kh6, reduceLT, reduceEqDiff, reduceAdd, reduceLeDiff, reduceMul, Int.reduceEq]))⟩ ?_
      rintro a5 H8 ⟨kp5, kh7, o9, e12, e13, e14, o10⟩
      have f6 := And.intro f5 (And.intro (KHF kh6) (And.intro (KpF kp5) (And.intro (KHF kh7) (And.intro e12 (And.intro e13 (e14))))))
      obtain ⟨u3, he2, hr1⟩ := bndE hr1
      refine U_cut (fun a' H' => ∃ x_4 : Int, ∃ out_4 : List (A2 Int), u3 = .n (x_4, out_4) ∧ ∃ v5, Kp [3, 7, 20] 21 a' a5 ∧ KH [28, 29] H' H8 ∧ a'.get 20 = .int .i64 x_4 ∧ Own [29] H' v5 2 (out_4.map (eA2 eInt)) ∧ a'.get 3 = v5) (U_block (U_loop (fun y a' H' => match y with | (m3, x_4, out_4) => loopE m3 (fun s => p_graph_Graph_Edges_b2 fuel x_2 m2 s.1 s.2) (x_4, out_4) = some u3 ∧ ∃ v5, Kp [3, 7, 20] 21 a' a5 ∧ KH [28, 29] H' H8 ∧ a'.get 20 = .int .i64 x_4 ∧ Own [29] H' v5 2 (out_4.map (eA2 eInt)) ∧ a'.get 3 = v5 : (Nat × Int × (List (A2 Int))) → Fr → Heap → Prop) (fun y : Nat × Int × (List (A2 Int)) => y.1) (fuel, 0, out_2) ?_ ?_)) ?_
      · exact ⟨he2, _, by simp only [SB, f6, reduceLT, reduceEqDiff, reduceAdd, reduceLeDiff, reduceMul, Int.reduceEq], by simp only [SB, f6, reduceLT, reduceEqDiff, reduceAdd, reduceLeDiff, reduceMul, Int.reduceEq], by simp only [SB, f6, Own.len (P := Try.prog) o8 ty37 rfl, ty37, reduceLT, reduceEqDiff, reduceAdd, reduceLeDiff, reduceMul, Int.reduceEq], (o10.same (by simp only [SB, f6, reduceLT, reduceEqDiff, reduceAdd, reduceLeDiff, reduceMul, Int.reduceEq])), by simp only [SB, f6, Own.len (P := Try.prog) o8 ty37 rfl, ty37, reduceLT, reduceEqDiff, reduceAdd, reduceLeDiff, reduceMul, Int.reduceEq]⟩
      ·
        rintro ⟨m3, x_4, out_4⟩ a6 H9 ⟨hf4, v5, kp6, kh8, e15, o11, e16⟩
        obtain ⟨m3', m3_lt, u4, hr2, hl4⟩ := loopE_step hf4
        replace hr2 : p_graph_Graph_Edges_b2 fuel x_2 m2 x_4 out_4 = some u4 := hr2
        unfold p_graph_Graph_Edges_b2 at hr2
        have f7 := And.intro f6 (And.intro e15 (And.intro e16 (And.intro (KpF kp6) ((KHF kh8)))))
        refine U_seq ?_
        refine U_reg ?_
        simp only [SB, f7, reduceLT, reduceEqDiff, reduceAdd, reduceLeDiff, reduceMul, Int.reduceEq]
        refine hold_intro ?_
        refine U_seq ?_
        rcases Bool.eq_false_or_eq_true (decide (x_4 < (m2.length : Int))) with hb2 | hb2
        ·
          rw [if_pos hb2] at hr2
          refine U_condT (by simp only [SB, f7, hb2, reduceLT, reduceEqDiff, reduceAdd, reduceLeDiff, reduceMul, Int.reduceEq]) ?_
          refine U_skip ?_
          refine U_seq ?_
          refine U_block ?_
          refine U_seq ?_
          obtain ⟨x1, kx1, hr2⟩ := bndO hr2
          refine U_reg ?_
          obtain ⟨w1_i, w1_r, w1_d, w1_f⟩ := Own.at (P := Try.prog) (k := .i64) o9 ty37 rfl ty3 rfl (idx_facts kx1).1 (row_map (f := eInt) kx1)
          have w1_1 := fun H1 hs => (w1_f H1 hs).1
          have w1_2 := fun H1 hs => (w1_f H1 hs).2.1
          simp only [SB, ty37, ty3, w1_1, w1_2, f7, hb2, reduceLT, reduceEqDiff, reduceAdd, reduceLeDiff, reduceMul, Int.reduceEq]
          refine hold_intro ?_
          obtain ⟨l1, kl1, hr2⟩ := bndO hr2
          refine U_reg ?_
          simp only [SB, ty41, ty3, fk41, ty34, f7, hb2, reduceLT, reduceEqDiff, reduceAdd, reduceLeDiff, reduceMul, Int.reduceEq]
          refine Own.appL (f := eA2 eInt) (xs := out_4) (ys := [(⟨x_2, x1⟩ : A2 Int)]) (D := [29]) (Own.sub (o11.same (by simp only [SB, f7, hb2, reduceLT, reduceEqDiff, reduceAdd, reduceLeDiff, reduceMul, Int.reduceEq])) (by simp only [SB, reduceEqDiff])) (by simp only [put_b, f7, hb2, reduceLT, reduceEqDiff, reduceAdd, reduceLeDiff, reduceMul, Int.reduceEq]) (by simp only [SB, reduceEqDiff]) ty34 rfl ty34 rfl ty41 rfl rfl rfl (by decide) (by simp only [srows_sb, SB, ty41, ty3, fk41, ty34, f7, hb2, reduceLT, reduceEqDiff, reduceAdd, reduceLeDiff, reduceMul, Int.reduceEq] <;> rfl) (cl_eA2 cl_eInt) kl1 ?_
          intro v6 H10 o13 kh9
          simp only [SB, ty41, ty3, fk41, ty34, f7, hb2, KHF kh9, reduceLT, reduceEqDiff, reduceAdd, reduceLeDiff, reduceMul, Int.reduceEq]
          refine hold_intro ?_
          refine U_reg ?_
          simp only [SB, f7, hb2, KHF kh9, reduceLT, reduceEqDiff, reduceAdd, reduceLeDiff, reduceMul, Int.reduceEq]
          refine hold_intro ?_
          replace hr2 := Option.some.inj hr2
          subst hr2
          exact ⟨(m3', IntKind.wrap .i64 (x_4 + 1), l1), m3_lt, hl4, _, by simp only [SB, f7, hb2, KHF kh9, reduceLT, reduceEqDiff, reduceAdd, reduceLeDiff, reduceMul, Int.reduceEq], by simp only [SB, f7, hb2, KHF kh9, reduceLT, reduceEqDiff, reduceAdd, reduceLeDiff, reduceMul, Int.reduceEq], by simp only [SB, f7, hb2, KHF kh9, reduceLT, reduceEqDiff, reduceAdd, reduceLeDiff, reduceMul, Int.reduceEq], (o13.same (by simp only [SB, f7, hb2, KHF kh9, reduceLT, reduceEqDiff, reduceAdd, reduceLeDiff, reduceMul, Int.reduceEq])), by simp only [SB, f7, hb2, KHF kh9, reduceLT, reduceEqDiff, reduceAdd, reduceLeDiff, reduceMul, Int.reduceEq]⟩
        ·
          rw [if_neg (by rw [hb2]; decide)] at hr2
          refine U_condF (by simp only [SB, f7, hb2, reduceLT, reduceEqDiff, reduceAdd, reduceLeDiff, reduceMul, Int.reduceEq]) ?_
          refine U_exit rfl ?_
          replace hr2 := Option.some.inj hr2
          subst hr2
          exact ⟨_, _, hl4, _, by simp only [SB, f7, hb2, reduceLT, reduceEqDiff, reduceAdd, reduceLeDiff, reduceMul, Int.reduceEq], by simp only [SB, f7, hb2, reduceLT, reduceEqDiff, reduceAdd, reduceLeDiff, reduceMul, Int.reduceEq], by simp only [SB, f7, hb2, reduceLT, reduceEqDiff, reduceAdd, reduceLeDiff, reduceMul, Int.reduceEq], (o11.same (by simp only [SB, f7, hb2, reduceLT, reduceEqDiff, reduceAdd, reduceLeDiff, reduceMul, Int.reduceEq])), by simp only [SB, f7, hb2, reduceLT, reduceEqDiff, reduceAdd, reduceLeDiff, reduceMul, Int.reduceEq]⟩
      ·
        rintro a7 H11 ⟨x_5, out_5, rfl, v7, kp7, kh10, e18, o14, e19⟩
        replace hr1 := outE_n hr1
        dsimp only at hr1
        have f8 := And.intro f6 (And.intro e18 (And.intro e19 (And.intro (KpF kp7) ((KHF kh10)))))
        refine U_reg ?_
        simp only [SB, f8, reduceLT, reduceEqDiff, reduceAdd, reduceLeDiff, reduceMul, Int.reduceEq]
        refine hold_intro ?_
        replace hr1 := Option.some.inj hr1
        subst hr1
        exact ⟨(m1', IntKind.wrap .i64 (x_2 + 1), out_5), m1_lt, hl2, _, by simp only [SB, f8, reduceLT, reduceEqDiff, reduceAdd, reduceLeDiff, reduceMul, Int.reduceEq], by simp only [SB, f8, reduceLT, reduceEqDiff, reduceAdd, reduceLeDiff, reduceMul, Int.reduceEq], by simp only [SB, f8, reduceLT, reduceEqDiff, reduceAdd, reduceLeDiff, reduceMul, Int.reduceEq], (o14.same (by simp only [SB, f8, reduceLT, reduceEqDiff, reduceAdd, reduceLeDiff, reduceMul, Int.reduceEq])), by simp only [SB, f8, reduceLT, reduceEqDiff, reduceAdd, reduceLeDiff, reduceMul, Int.reduceEq]⟩
    ·
      rw [if_neg (by rw [hb1]; decide)] at hr1
      refine U_condF (by simp only [SB, f3, hb1, reduceLT, reduceEqDiff, reduceAdd, reduceLeDiff, reduceMul, Int.reduceEq]) ?_
      refine U_exit rfl ?_
      replace hr1 := Option.some.inj hr1
      subst hr1
      exact ⟨_, _, hl2, _, by simp only [SB, f3, hb1, reduceLT, reduceEqDiff, reduceAdd, reduceLeDiff, reduceMul, Int.reduceEq], by simp only [SB, f3, hb1, reduceLT, reduceEqDiff, reduceAdd, reduceLeDiff, reduceMul, Int.reduceEq], by simp only [SB, f3, hb1, reduceLT, reduceEqDiff, reduceAdd, reduceLeDiff, reduceMul, Int.reduceEq], (o1.same (by simp only [SB, f3, hb1, reduceLT, reduceEqDiff, reduceAdd, reduceLeDiff, reduceMul, Int.reduceEq])), by simp only [SB, f3, hb1, reduceLT, reduceEqDiff, reduceAdd, reduceLeDiff, reduceMul, Int.reduceEq]⟩
  ·
    rintro a8 H12 ⟨x_6, out_6, rfl, v8, kp8, kh11, e20, o15, e21⟩
    replace h := outE_n h
    dsimp only at h
    have f9 := And.intro f2 (And.intro e20 (And.intro e21 (And.intro (KpF kp8) ((KHF kh11)))))
    refine U_seq ?_
    refine U_reg ?_
    simp only [SB, f9, reduceLT, reduceEqDiff, reduceAdd, reduceLeDiff, reduceMul, Int.reduceEq]
    refine hold_intro ?_
    refine U_ret ?_
    replace h := Option.some.inj h
    subst h
    refine ⟨v8, by simp only [ires, iress, Try.results18, SB, List.toList_toArray, f9, reduceLT, reduceEqDiff, reduceAdd, reduceLeDiff, reduceMul, Int.reduceEq], ?_⟩
    exact ((o15.same (by simp only [SB, f9, reduceLT, reduceEqDiff, reduceAdd, reduceLeDiff, reduceMul, Int.reduceEq]))).fz (cls (cl_eA2 cl_eInt) _)

theorem w_graph_Graph_Away_1 (b_ : Nat) {fuel : Nat} {i_1 : Int} {p_1 : Int} {p_2 : bits_Set} {p_3 : List Int} {m2_ : bits_Set} {m3_ : List Int} (h : p_graph_Graph_Away_1 fuel i_1 p_1 p_2 p_3 = some (m2_, m3_)) {k1q g1q : Nat} {k2q g2q : Nat} {k2_0q g2_0q : Nat} {k2_0_1q : Nat} {v2_0_1q : IV} {k3q g3q : Nat} {k3_0q : Nat} {v3_0q : IV} {H : Heap} (ha0 : k1q ∉ [b_ + 15, b_ + 16]) (ha1 : k2q ∉ [k1q, b_ + 15, b_ + 16]) (ha2 : k2_0q ∉ [k1q, k2q, b_ + 15, b_ + 16]) (ha3 : k2_0_1q ∉ [k1q, k2q, k2_0q, b_ + 15, b_ + 16]) (ha4 : k3q ∉ [k1q, k2q, k2_0q, k2_0_1q, b_ + 15, b_ + 16]) (ha5 : k3_0q ∉ [k1q, k2q, k2_0q, k2_0_1q, k3q, b_ + 15, b_ + 16]) (hb1q : H.get ⟨k1q, g1q⟩ = some ⟨1, [[.int .i64 p_1]]⟩) (hb2q : H.get ⟨k2q, g2q⟩ = some ⟨1, [[.pb ⟨k2_0q, g2_0q⟩ 0 0]]⟩) (hb2_0q : H.get ⟨k2_0q, g2_0q⟩ = some ⟨2, [[.int .i64 p_2.n, v2_0_1q]]⟩) (o2_0_1q : Own [k2_0_1q] H v2_0_1q 1 (p_2.words.map (eI .u64))) (hb3q : H.get ⟨k3q, g3q⟩ = some ⟨1, [[v3_0q]]⟩) (o3_0q : Own [k3_0q] H v3_0q 1 (p_3.map eInt)) : CallW Try.prog 86 [.int .i64 i_1, .pb ⟨k1q, g1q⟩ 0 0, .pb ⟨k2q, g2q⟩ 0 0, .pb ⟨k3q, g3q⟩ 0 0] H (fun rv H' => ∃ v3_0qn : IV, rv = (.tup [] : IV) ∧ KH [b_ + 15, b_ + 16, k1q, k2q, k2_0q, k2_0_1q, k3q, k3_0q] H' H ∧ H'.get ⟨k1q, g1q⟩ = some ⟨1, [[.int .i64 p_1]]⟩ ∧ H'.get ⟨k2q, g2q⟩ = some ⟨1, [[.pb ⟨k2_0q, g2_0q⟩ 0 0]]⟩ ∧ H'.get ⟨k2_0q, g2_0q⟩ = some ⟨2, [[.int .i64 m2_.n, v2_0_1q]]⟩ ∧ Own [k2_0_1q] H' v2_0_1q 1 (m2_.words.map (eI .u64)) ∧ H'.get ⟨k3q, g3q⟩ = some ⟨1, [[v3_0qn]]⟩ ∧ Own [b_ + 16, k3_0q] H' v3_0qn 1 (m3_.map eInt)) := by
  refine U_call b_ Try.func86 rfl (by kernel_rfl) (by simp [Try.ntmps86]) ?_
  rw [Try.ntmps86]
  refine U_at (fun a' H' => H = H' ∧ a'.n = 17 ∧ a'.b = b_ ∧ a'.get 0 = .int .i64 i_1 ∧ a'.get 1 = .pb ⟨k1q, g1q⟩ 0 0 ∧ a'.get 2 = .pb ⟨k2q, g2q⟩ 0 0 ∧ a'.get 3 = .pb ⟨k3q, g3q⟩ 0 0) ⟨rfl, rfl, rfl, rfl, rfl, rfl, rfl⟩ ?_
  rintro a0 H0 ⟨rfl, hn0, hn1, e1, e2, e3, e4⟩
  unfold p_graph_Graph_Away_1 at h
  have f1 := And.intro hn0 (And.intro hn1 (And.intro e1 (And.intro e2 (And.intro e3 (And.intro e4 (And.intro hb1q (And.intro hb2q (And.intro hb2_0q (And.intro hb3q (And.intro (apF ha0) (And.intro (apF ha1) (And.intro (apF ha2) (And.intro (apF ha3) (And.intro (apF ha4) ((apF ha5))))))))))))))))
  refine U_seq ?_
  obtain ⟨⟨b1, c1, c2⟩, kb1, h⟩ := bndO h
  dsimp only at h
  refine U_cut (fun a' H' => Kp [] 5 a' a0 ∧ KH [k2_0_1q, k2_0q] H' H ∧ a'.get 12 = .bool b1 ∧ Own [k2_0_1q] H' v2_0_1q 1 (c2.map (eI .u64)) ∧ H'.get ⟨k2_0q, g2_0q⟩ = some ⟨2, [[.int .i64 c1, v2_0_1q]]⟩) ?_ ?_
  · refine U_reg ?_
    rcases Bool.eq_false_or_eq_true (decide (i_1 ≠ p_1)) with hb2 | hb2
    ·
      have hx1 := hb2
      rw [if_pos hx1] at kb1
      obtain ⟨⟨r1, m1⟩, kr1, kb1⟩ := bndO kb1
      dsimp only at kb1
      replace kb1 := Option.some.inj kb1
      obtain ⟨q1, q2⟩ := Prod.mk.inj kb1
      clear kb1
      obtain ⟨q3, q4⟩ := Prod.mk.inj q2
      clear q2
      subst q1
      subst q3
      subst q4
      simp only [SB, hb2, ty3, ty44, f1, reduceLT, reduceEqDiff, reduceAdd, reduceLeDiff, reduceMul, Int.reduceEq]
      refine callH (w_bits_Set_Add (b_ + 27) (k0q := k2_0q) (g0q := g2_0q) (k0_1q := k2_0_1q) (v0_1q := v2_0_1q) kr1 (by simp only [SB, f1, reduceLT, reduceEqDiff, reduceAdd, reduceLeDiff, reduceMul, Int.reduceEq]) (by simp only [SB, f1, reduceLT, reduceEqDiff, reduceAdd, reduceLeDiff, reduceMul, Int.reduceEq]) (by simp only [SB, hb2, ty3, ty44, f1, reduceLT, reduceEqDiff, reduceAdd, reduceLeDiff, reduceMul, Int.reduceEq] <;> rfl) (o2_0_1q.same (by simp only [SB, f1, reduceLT, reduceEqDiff, reduceAdd, reduceLeDiff, reduceMul, Int.reduceEq]))) ?_
      rintro rv1 H1 ⟨rfl, kh1, hb1, o1⟩
      try simp only [Nat.add_assoc, reduceAdd] at kh1 hb1 o1
      try simp only [Nat.add_assoc, reduceAdd]
      simp only [SB, hb2, ty3, ty44, f1, KHF kh1, hb1, reduceLT, reduceEqDiff, reduceAdd, reduceLeDiff, reduceMul, Int.reduceEq]
      refine hold_intro ?_
      exact ⟨by simp only [SB, f1, KHF kh1, hb1, reduceLT, reduceEqDiff, reduceAdd, reduceLeDiff, reduceMul, Int.reduceEq], by simp only [SB, f1, KHF kh1, hb1, reduceLT, reduceEqDiff, reduceAdd, reduceLeDiff, reduceMul, Int.reduceEq], by simp only [SB, f1, KHF kh1, hb1, hb2, ty3, ty44, reduceLT, reduceEqDiff, reduceAdd, reduceLeDiff, reduceMul, Int.reduceEq], (o1.same (by simp only [SB, f1, KHF kh1, hb1, reduceLT, reduceEqDiff, reduceAdd, reduceLeDiff, reduceMul, Int.reduceEq])), by simp only [SB, f1, KHF kh1, hb1, hb2, ty3, ty44, reduceLT, reduceEqDiff, reduceAdd, reduceLeDiff, reduceMul, Int.reduceEq] <;> rfl⟩
    ·
      have hx2 := hb2
      rw [if_neg (by rw [hx2]; decide)] at kb1
      replace kb1 := Option.some.inj kb1
      obtain ⟨q5, q6⟩ := Prod.mk.inj kb1
      clear kb1
      obtain ⟨q7, q8⟩ := Prod.mk.inj q6
      clear q6
      subst q5
      subst q7
      subst q8
      simp only [SB, hb2, ty3, f1, reduceLT, reduceEqDiff, reduceAdd, reduceLeDiff, reduceMul, Int.reduceEq]
      refine hold_intro ?_
      exact ⟨by simp only [SB, f1, reduceLT, reduceEqDiff, reduceAdd, reduceLeDiff, reduceMul, Int.reduceEq], by simp only [SB, f1, reduceLT, reduceEqDiff, reduceAdd, reduceLeDiff, reduceMul, Int.reduceEq], by simp only [SB, f1, hb2, ty3, reduceLT, reduceEqDiff, reduceAdd, reduceLeDiff, reduceMul, Int.reduceEq], (o2_0_1q.same (by simp only [SB, f1, reduceLT, reduceEqDiff, reduceAdd, reduceLeDiff, reduceMul, Int.reduceEq])), by simp only [SB, f1, hb2, ty3, reduceLT, reduceEqDiff, reduceAdd, reduceLeDiff, reduceMul, Int.reduceEq] <;> rfl⟩
  · rintro a1 H2 ⟨kp1, kh2, e5, o2, e6⟩
    have f2 := And.intro f1 (And.intro e6 (And.intro (KpF kp1) (And.intro (KHF kh2) (e5))))
    rcases Bool.eq_false_or_eq_true (b1) with hb3 | hb3
    ·
      rw [if_pos hb3] at h
      refine U_condT (by simp only [SB, f2, hb3, reduceLT, reduceEqDiff, reduceAdd, reduceLeDiff, reduceMul, Int.reduceEq]) ?_
      obtain ⟨l1, kl1, h⟩ := bndO h
      refine U_reg ?_
      simp only [SB, ty37, ty3, f2, hb3, reduceLT, reduceEqDiff, reduceAdd, reduceLeDiff, reduceMul, Int.reduceEq]
      refine Own.appL (f := eInt) (xs := p_3) (ys := [i_1]) (D := [b_ + 16, k3_0q]) (Own.sub (o3_0q.same (by simp only [SB, f2, hb3, reduceLT, reduceEqDiff, reduceAdd, reduceLeDiff, reduceMul, Int.reduceEq])) (by simp only [SB, reduceEqDiff])) (by simp only [put_b, f2, hb3, reduceLT, reduceEqDiff, reduceAdd, reduceLeDiff, reduceMul, Int.reduceEq]) (by simp only [SB, reduceEqDiff]) ty37 rfl ty37 rfl ty3 rfl rfl rfl (by decide) (by simp only [srows_sb, SB, ty37, ty3, f2, hb3, reduceLT, reduceEqDiff, reduceAdd, reduceLeDiff, reduceMul, Int.reduceEq] <;> rfl) cl_eInt kl1 ?_
      intro v2 H3 o4 kh3
      simp only [SB, ty37, ty3, Own.cf o4, f2, hb3, KHF kh3, reduceLT, reduceEqDiff, reduceAdd, reduceLeDiff, reduceMul, Int.reduceEq]
      refine hold_intro ?_
      replace h := Option.some.inj h
      obtain ⟨q9, q10⟩ := Prod.mk.inj h
      clear h
      subst q9
      subst q10
      refine ⟨.tup [], by simp only [ires, iress, Try.results86, SB, List.toList_toArray, ty37, ty3, Own.cf o4, f2, hb3, KHF kh3, reduceLT, reduceEqDiff, reduceAdd, reduceLeDiff, reduceMul, Int.reduceEq], ?_⟩
      exact ⟨v2, rfl, by simp only [SB, f2, hb3, KHF kh3, reduceLT, reduceEqDiff, reduceAdd, reduceLeDiff, reduceMul, Int.reduceEq], by simp only [SB, f2, hb3, KHF kh3, ty37, ty3, Own.cf o4, reduceLT, reduceEqDiff, reduceAdd, reduceLeDiff, reduceMul, Int.reduceEq] <;> rfl, by simp only [SB, f2, hb3, KHF kh3, ty37, ty3, Own.cf o4, reduceLT, reduceEqDiff, reduceAdd, reduceLeDiff, reduceMul, Int.reduceEq] <;> rfl, by simp only [SB, f2, hb3, KHF kh3, ty37, ty3, Own.cf o4, reduceLT, reduceEqDiff, reduceAdd, reduceLeDiff, reduceMul, Int.reduceEq] <;> rfl, (o2.same (by simp only [SB, f2, hb3, KHF kh3, reduceLT, reduceEqDiff, reduceAdd, reduceLeDiff, reduceMul, Int.reduceEq])), by simp only [SB, f2, hb3, KHF kh3, ty37, ty3, Own.cf o4, reduceLT, reduceEqDiff, reduceAdd, reduceLeDiff, reduceMul, Int.reduceEq] <;> rfl, (Own.sub (o4.same (by simp only [SB, f2, hb3, KHF kh3, reduceLT, reduceEqDiff, reduceAdd, reduceLeDiff, reduceMul, Int.reduceEq])) (by simp only [SB, reduceEqDiff]))⟩
    ·
      rw [if_neg (by rw [hb3]; decide)] at h
      refine U_condF (by simp only [SB, f2, hb3, reduceLT, reduceEqDiff, reduceAdd, reduceLeDiff, reduceMul, Int.reduceEq]) ?_
      refine U_skip ?_
      replace h := Option.some.inj h
      obtain ⟨q11, q12⟩ := Prod.mk.inj h
      clear h
      subst q11
      subst q12
      refine ⟨.tup [], by simp only [ires, iress, Try.results86, SB, List.toList_toArray, f2, hb3, reduceLT, reduceEqDiff, reduceAdd, reduceLeDiff, reduceMul, Int.reduceEq], ?_⟩
      exact ⟨v3_0q, rfl, by simp only [SB, f2, hb3, reduceLT, reduceEqDiff, reduceAdd, reduceLeDiff, reduceMul, Int.reduceEq], by simp only [SB, f2, hb3, reduceLT, reduceEqDiff, reduceAdd, reduceLeDiff, reduceMul, Int.reduceEq] <;> rfl, by simp only [SB, f2, hb3, reduceLT, reduceEqDiff, reduceAdd, reduceLeDiff, reduceMul, Int.reduceEq] <;> rfl, by simp only [SB, f2, hb3, reduceLT, reduceEqDiff, reduceAdd, reduceLeDiff, reduceMul, Int.reduceEq] <;> rfl, (o2.same (by simp only [SB, f2, hb3, reduceLT, reduceEqDiff, reduceAdd, reduceLeDiff, reduceMul, Int.reduceEq])), by simp only [SB, f2, hb3, reduceLT, reduceEqDiff, reduceAdd, reduceLeDiff, reduceMul, Int.reduceEq] <;> rfl, (Own.sub (o3_0q.same (by simp only [SB, f2, hb3, reduceLT, reduceEqDiff, reduceAdd, reduceLeDiff, reduceMul, Int.reduceEq])) (by simp only [SB, reduceEqDiff]))⟩

end Go.Proofs.Ytodafoajkajnkaa.IL
