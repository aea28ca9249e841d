/- The code of functions computes the pure ones. Printed by tr.py. -/
import Derived.Test.YtodafoajkajnkaaBx1
import Derived.Test.YtodafoajkajnkaaPX
import Derived.Test.YtodafoajkajnkaaPL2
import Derived.Test.YtodafoajkajnkaaPLS
import Derived.Test.YtodafoajkajnkaaSL
import Derived.Test.YtodafoajkajnkaaBp
set_option linter.unusedVariables false
set_option linter.unusedSimpArgs false
set_option maxRecDepth 100000
namespace Go.Proofs.Ytodafoajkajnkaa.IL
open Go Go.RowKit PL
open Nat (reduceLT reduceEqDiff reduceAdd reduceLeDiff reduceMul)

theorem w_graph_Graph_Away {fuel : Nat} {g_1 : graph_Graph} {tov_1 : Int} {without_1 : Int} {r0_ : bits_Set} (h : p_graph_Graph_Away fuel g_1 tov_1 without_1 = some r0_) : Pure1 Try.prog 29 [.pim [egraph_Graph g_1] 0 0, .int .i64 tov_1, .int .i64 without_1] (.pim [ebits_Set r0_] 0 0) := by
  refine Pure1_fz (all_cl (cl_pim1 cl_egraph_Graph _) (all_cl (closed_int _ _) (all_cl (closed_int _ _) all_cl0))) ?_
  refine U_call 0 Try.func29 rfl (by kernel_rfl) (by simp [Try.ntmps29]) ?_
  rw [Try.ntmps29]
  refine U_at (fun a' H' => a'.n = 47 ∧ a'.b = 0 ∧ a'.get 0 = .pim [egraph_Graph g_1] 0 0 ∧ a'.get 1 = .int .i64 tov_1 ∧ a'.get 2 = .int .i64 without_1) ⟨rfl, rfl, rfl, rfl, rfl⟩ ?_
  rintro a0 H0 ⟨hn0, hn1, e1, e2, e3⟩
  unfold p_graph_Graph_Away at h
  have f1 := And.intro hn0 (And.intro hn1 (And.intro e1 (And.intro e2 (e3))))
  refine U_seq ?_
  refine U_reg ?_
  simp only [SB, ty3, f1, reduceLT, reduceEqDiff, reduceAdd, reduceLeDiff, reduceMul, Int.reduceEq]
  refine hold_intro ?_
  refine U_seq ?_
  obtain ⟨r1, kr1, h⟩ := bndO h
  obtain ⟨r2, kr2, h⟩ := bndO h
  refine U_reg ?_
  simp only [SB, f1, reduceLT, reduceEqDiff, reduceAdd, reduceLeDiff, reduceMul, Int.reduceEq]
  refine callP (w_graph_Graph_Len kr1) ?_
  simp only [SB, f1, reduceLT, reduceEqDiff, reduceAdd, reduceLeDiff, reduceMul, Int.reduceEq]
  refine callH (w_bits_New_own0 (57)  kr2  ) ?_
  rintro rv1 H1 ⟨g1, v1, rfl, kh1, hb1, o1⟩
  try simp only [Nat.add_assoc, reduceAdd] at kh1 hb1 o1
  try simp only [Nat.add_assoc, reduceAdd]
  simp only [SB, ty44, f1, KHF kh1, hb1, reduceLT, reduceEqDiff, reduceAdd, reduceLeDiff, reduceMul, Int.reduceEq]
  refine hold_intro ?_
  refine U_seq ?_
  refine U_reg ?_
  simp only [SB, ty37, f1, KHF kh1, hb1, reduceLT, reduceEqDiff, reduceAdd, reduceLeDiff, reduceMul, Int.reduceEq]
  refine hold_intro ?_
  refine U_seq ?_
  refine U_reg ?_
  simp only [SB, f1, KHF kh1, hb1, reduceLT, reduceEqDiff, reduceAdd, reduceLeDiff, reduceMul, Int.reduceEq]
  refine hold_intro ?_
  refine U_seq ?_
  obtain ⟨⟨m1, m2⟩, km1, h⟩ := bndO h
  dsimp only at h
  refine U_reg ?_
  simp only [SB, f1, KHF kh1, hb1, reduceLT, reduceEqDiff, reduceAdd, reduceLeDiff, reduceMul, Int.reduceEq]
  refine callH (w_graph_Graph_Away_1 (90) (k1q := 5) (g1q := H0.next (5)) (k2q := 7) (g2q := H1.next (7)) (k2_0q := 69) (g2_0q := g1) (k2_0_1q := 67) (v2_0_1q := v1) (k3q := 8) (g3q := H1.next (8)) (k3_0q := 174) (v3_0q := .nils) km1 (by simp only [SB, f1, KHF kh1, hb1, reduceLT, reduceEqDiff, reduceAdd, reduceLeDiff, reduceMul, Int.reduceEq]) (by simp only [SB, f1, KHF kh1, hb1, reduceLT, reduceEqDiff, reduceAdd, reduceLeDiff, reduceMul, Int.reduceEq]) (by simp only [SB, f1, KHF kh1, hb1, reduceLT, reduceEqDiff, reduceAdd, reduceLeDiff, reduceMul, Int.reduceEq]) (by simp only [SB, f1, KHF kh1, hb1, reduceLT, reduceEqDiff, reduceAdd, reduceLeDiff, reduceMul, Int.reduceEq]) (by simp only [SB, f1, KHF kh1, hb1, reduceLT, reduceEqDiff, reduceAdd, reduceLeDiff, reduceMul, Int.reduceEq]) (by simp only [SB, f1, KHF kh1, hb1, reduceLT, reduceEqDiff, reduceAdd, reduceLeDiff, reduceMul, Int.reduceEq]) (by simp only [SB, f1, KHF kh1, hb1, reduceLT, reduceEqDiff, reduceAdd, reduceLeDiff, reduceMul, Int.reduceEq] <;> rfl) (by simp only [SB, f1, KHF kh1, hb1, reduceLT, reduceEqDiff, reduceAdd, reduceLeDiff, reduceMul, Int.reduceEq] <;> rfl) (by simp only [SB, f1, KHF kh1, hb1, reduceLT, reduceEqDiff, reduceAdd, reduceLeDiff, reduceMul, Int.reduceEq] <;> rfl) (o1.same (by simp only [SB, f1, KHF kh1, hb1, reduceLT, reduceEqDiff, reduceAdd, reduceLeDiff, reduceMul, Int.reduceEq])) (by simp only [SB, f1, KHF kh1, hb1, reduceLT, reduceEqDiff, reduceAdd, reduceLeDiff, reduceMul, Int.reduceEq] <;> rfl) Own.nil) ?_
  rintro rv2 H2 ⟨v3, rfl, kh2, hb2, hb4, hb3, o2, hb5, o3⟩
  try simp only [Nat.add_assoc, reduceAdd] at kh2 hb2 hb4 hb3 o2 hb5 o3
  try simp only [Nat.add_assoc, reduceAdd]
  simp only [SB, f1, KHF kh1, hb1, KHF kh2, hb2, hb4, hb3, hb5, reduceLT, reduceEqDiff, reduceAdd, reduceLeDiff, reduceMul, Int.reduceEq]
  refine hold_intro ?_
  refine U_seq ?_
  refine U_at (fun a' H' => Kp [5, 6, 7, 8, 9, 13, 14, 15, 16, 17, 18, 19] 39 a' a0 ∧ KH [105, 106, 174, 5, 67, 69, 7, 8] H' H0 ∧ a'.get 7 = .pb ⟨7, H1.next (7)⟩ 0 0 ∧ a'.get 8 = .pb ⟨8, H1.next (8)⟩ 0 0 ∧ a'.get 9 = .fn (.func 86) [] [.pb ⟨5, H0.next (5)⟩ 0 0, .pb ⟨7, H1.next (7)⟩ 0 0, .pb ⟨8, H1.next (8)⟩ 0 0] ∧ H'.get ⟨5, H0.next (5)⟩ = some ⟨1, [[.int .i64 without_1]]⟩ ∧ H'.get ⟨7, H1.next (7)⟩ = some ⟨1, [[.pb ⟨69, g1⟩ 0 0]]⟩ ∧ Own [106, 174] H' v3 1 (m2.map eInt) ∧ H'.get ⟨8, H1.next (8)⟩ = some ⟨1, [[v3]]⟩ ∧ Own [67] H' v1 1 (m1.words.map (eI .u64)) ∧ H'.get ⟨69, g1⟩ = some ⟨2, [[.int .i64 m1.n, v1]]⟩) ⟨by simp only [SB, f1, KHF kh1, hb1, KHF kh2, hb2, hb4, hb3, hb5, reduceLT, reduceEqDiff, reduceAdd, reduceLeDiff, reduceMul, Int.reduceEq], by simp only [SB, f1, KHF kh1, hb1, KHF kh2, hb2, hb4, hb3, hb5, reduceLT, reduceEqDiff, reduceAdd, reduceLeDiff, reduceMul, Int.reduceEq], by simp only [SB, f1, KHF kh1, hb1, KHF kh2, hb2, hb4, hb3, hb5, reduceLT, reduceEqDiff, reduceAdd, reduceLeDiff, reduceMul, Int.reduceEq], by simp only [SB, f1, KHF kh1, hb1, KHF kh2, hb2, hb4, hb3, hb5, reduceLT, reduceEqDiff, reduceAdd, reduceLeDiff, reduceMul, Int.reduceEq], by simp only [SB, f1, KHF kh1, hb1, KHF kh2, hb2, hb4, hb3, hb5, reduceLT, reduceEqDiff, reduceAdd, reduceLeDiff, reduceMul, Int.reduceEq], by simp only [SB, f1, KHF kh1, hb1, KHF kh2, hb2, hb4, hb3, hb5, reduceLT, reduceEqDiff, reduceAdd, reduceLeDiff, reduceMul, Int.reduceEq] <;> rfl, by simp only [SB, f1, KHF kh1, hb1, KHF kh2, hb2, hb4, hb3, hb5, reduceLT, reduceEqDiff, reduceAdd, reduceLeDiff, reduceMul, Int.reduceEq] <;> rfl, (o3.same (by simp only [SB, f1, KHF kh1, hb1, KHF kh2, hb2, hb4, hb3, hb5, reduceLT, reduceEqDiff, reduceAdd, reduceLeDiff, reduceMul, Int.reduceEq])), by simp only [SB, f1, KHF kh1, hb1, KHF kh2, hb2, hb4, hb3, hb5, reduceLT, reduceEqDiff, reduceAdd, reduceLeDiff, reduceMul, Int.reduceEq] <;> rfl, (o2.same (by simp only [SB, f1, KHF kh1, hb1, KHF kh2, hb2, hb4, hb3, hb5, reduceLT, reduceEqDiff, reduceAdd, reduceLeDiff, reduceMul, Int.reduceEq])), by simp only [SB, f1, KHF kh1, hb1, KHF kh2, hb2, hb4, hb3, hb5, reduceLT, reduceEqDiff, reduceAdd, reduceLeDiff, reduceMul, Int.reduceEq] <;> rfl⟩ ?_
  rintro a1 H3 ⟨kp1, kh3, e4, e5, e6, e7, e8, o6, e9, o8, e10⟩
  have f2 := And.intro f1 (And.intro (KHF kh1) (And.intro hb1 (And.intro (KHF kh2) (And.intro hb2 (And.intro hb4 (And.intro hb3 (And.intro hb5 (And.intro (KpF kp1) (And.intro (KHF kh3) (And.intro e4 (And.intro e5 (And.intro e6 (And.intro e7 (And.intro e8 (And.intro e9 (e10))))))))))))))))
  obtain ⟨u1, he1, h⟩ := bndE h
  refine U_cut (fun a' H' => ∃ c4 : Int, ∃ c5 : List Int, ∃ c6 : List Int, u1 = .n (c4, c5, c6) ∧ ∃ v4, Kp [10, 12, 20, 21, 22, 23, 24, 25, 26, 27, 28, 29, 30, 31, 32, 33, 34, 35, 36, 37, 38] 39 a' a1 ∧ KH [106, 174, 190, 191, 259, 5, 67, 69, 7, 8] H' H3 ∧ Own [67] H' v1 1 (c5.map (eI .u64)) ∧ Own [106, 174, 191, 259] H' v4 1 (c6.map eInt) ∧ H'.get ⟨5, H0.next (5)⟩ = some ⟨1, [[.int .i64 without_1]]⟩ ∧ H'.get ⟨7, H1.next (7)⟩ = some ⟨1, [[.pb ⟨69, g1⟩ 0 0]]⟩ ∧ H'.get ⟨8, H1.next (8)⟩ = some ⟨1, [[v4]]⟩ ∧ H'.get ⟨69, g1⟩ = some ⟨2, [[.int .i64 c4, v1]]⟩) (U_block (U_loop (fun y a' H' => match y with | (m3, c4, c5, c6) => loopE m3 (fun s => p_graph_Graph_Away_b1 fuel g_1 without_1 s.1 s.2.1 s.2.2) (c4, c5, c6) = some u1 ∧ ∃ v4, Kp [10, 12, 20, 21, 22, 23, 24, 25, 26, 27, 28, 29, 30, 31, 32, 33, 34, 35, 36, 37, 38] 39 a' a1 ∧ KH [106, 174, 190, 191, 259, 5, 67, 69, 7, 8] H' H3 ∧ Own [67] H' v1 1 (c5.map (eI .u64)) ∧ Own [106, 174, 191, 259] H' v4 1 (c6.map eInt) ∧ H'.get ⟨5, H0.next (5)⟩ = some ⟨1, [[.int .i64 without_1]]⟩ ∧ H'.get ⟨7, H1.next (7)⟩ = some ⟨1, [[.pb ⟨69, g1⟩ 0 0]]⟩ ∧ H'.get ⟨8, H1.next (8)⟩ = some ⟨1, [[v4]]⟩ ∧ H'.get ⟨69, g1⟩ = some ⟨2, [[.int .i64 c4, v1]]⟩ : (Nat × Int × (List Int) × (List Int)) → Fr → Heap → Prop) (fun y : Nat × Int × (List Int) × (List Int) => y.1) (fuel, m1.n, m1.words, m2) ?_ ?_)) ?_
  · exact ⟨he1, _, by simp only [SB, f2, reduceLT, reduceEqDiff, reduceAdd, reduceLeDiff, reduceMul, Int.reduceEq], by simp only [SB, f2, reduceLT, reduceEqDiff, reduceAdd, reduceLeDiff, reduceMul, Int.reduceEq], (o8.same (by simp only [SB, f2, reduceLT, reduceEqDiff, reduceAdd, reduceLeDiff, reduceMul, Int.reduceEq])), (Own.sub (o6.same (by simp only [SB, f2, reduceLT, reduceEqDiff, reduceAdd, reduceLeDiff, reduceMul, Int.reduceEq])) (by simp only [SB, reduceEqDiff])), by simp only [SB, f2, reduceLT, reduceEqDiff, reduceAdd, reduceLeDiff, reduceMul, Int.reduceEq] <;> rfl, by simp only [SB, f2, reduceLT, reduceEqDiff, reduceAdd, reduceLeDiff, reduceMul, Int.reduceEq] <;> rfl, by simp only [SB, f2, reduceLT, reduceEqDiff, reduceAdd, reduceLeDiff, reduceMul, Int.reduceEq] <;> rfl, by simp only [SB, f2, reduceLT, reduceEqDiff, reduceAdd, reduceLeDiff, reduceMul, Int.reduceEq] <;> rfl⟩
  ·
    rintro ⟨m3, c4, c5, c6⟩ a2 H4 ⟨hf2, v4, kp2, kh4, o9, o10, e11, e12, e13, e14⟩
    obtain ⟨m3', m3_lt, u2, hr1, hl2⟩ := loopE_step hf2
    replace hr1 : p_graph_Graph_Away_b1 fuel g_1 without_1 c4 c5 c6 = some u2 := hr1
    unfold p_graph_Graph_Away_b1 at hr1
    have f3 := And.intro f2 (And.intro e11 (And.intro e12 (And.intro e13 (And.intro e14 (And.intro (KpF kp2) ((KHF kh4)))))))
    refine U_seq ?_
    refine U_seq ?_
    refine U_reg ?_
    simp only [SB, ty37, Own.len (P := Try.prog) o10 ty37 rfl, f3, reduceLT, reduceEqDiff, reduceAdd, reduceLeDiff, reduceMul, Int.reduceEq]
    refine hold_intro ?_
    rcases Bool.eq_false_or_eq_true (decide (0 < (c6.length : Int))) with hb6 | hb6
    ·
      rw [if_pos hb6] at hr1
      refine U_condT (by simp only [SB, f3, hb6, ty37, Own.len (P := Try.prog) o10 ty37 rfl, reduceLT, reduceEqDiff, reduceAdd, reduceLeDiff, reduceMul, Int.reduceEq]) ?_
      refine U_skip ?_
      refine U_block ?_
      refine U_seq ?_
      obtain ⟨x1, kx1, hr1⟩ := bndO hr1
      refine U_reg ?_
      obtain ⟨w1_i, w1_r, w1_d, w1_f⟩ := Own.at (P := Try.prog) (k := .i64) o10 ty37 rfl ty3 rfl (idx_facts kx1).1 (row_map (f := eInt) kx1)
      have w1_1 := fun H1 hs => (w1_f H1 hs).1
      have w1_2 := fun H1 hs => (w1_f H1 hs).2.1
      simp only [SB, ty37, Own.len (P := Try.prog) o10 ty37 rfl, ty3, w1_1, w1_2, f3, hb6, reduceLT, reduceEqDiff, reduceAdd, reduceLeDiff, reduceMul, Int.reduceEq]
      refine hold_intro ?_
      refine U_seq ?_
      obtain ⟨l1, kl1, hr1⟩ := bndO hr1
      refine U_reg ?_
      obtain ⟨v5, v5_f, o11⟩ := Own.sliL (f := eInt) o10 ty37 rfl ty3 rfl (bnds0 kl1) kl1
      simp only [SB, ty37, Own.len (P := Try.prog) o10 ty37 rfl, v5_f, Own.cf o11, f3, hb6, reduceLT, reduceEqDiff, reduceAdd, reduceLeDiff, reduceMul, Int.reduceEq]
      refine hold_intro ?_
      refine U_seq ?_
      obtain ⟨r3, kr3, hr1⟩ := bndO hr1
      refine U_reg ?_
      simp only [SB, f3, hb6, reduceLT, reduceEqDiff, reduceAdd, reduceLeDiff, reduceMul, Int.reduceEq]
      refine callP (w_graph_Graph_Pred kr3) ?_
      simp only [SB, len_sim ty37 rfl, f3, hb6, reduceLT, reduceEqDiff, reduceAdd, reduceLeDiff, reduceMul, Int.reduceEq]
      refine hold_intro ?_
      refine U_at (fun a' H' => Kp [10, 20, 21, 22, 23, 24, 25, 26, 27, 28, 29, 30, 31, 32, 33, 34, 35, 36, 37, 38] 39 a' a2 ∧ KH [8] H' H4 ∧ a'.get 22 = .bool (decide (0 < (c6.length : Int))) ∧ a'.get 36 = .sim (r3.map eInt) false ∧ a'.get 37 = .int .i64 (r3.length : Int) ∧ a'.get 38 = .int .i64 0 ∧ Own [106, 174, 191, 259] H' v5 1 (l1.map eInt) ∧ H'.get ⟨8, H1.next (8)⟩ = some ⟨1, [[v5]]⟩ ∧ Own [67] H' v1 1 (c5.map (eI .u64))) ⟨by simp only [SB, f3, hb6, reduceLT, reduceEqDiff, reduceAdd, reduceLeDiff, reduceMul, Int.reduceEq], by simp only [SB, f3, hb6, reduceLT, reduceEqDiff, reduceAdd, reduceLeDiff, reduceMul, Int.reduceEq], by simp only [SB, f3, hb6, len_sim ty37 rfl, reduceLT, reduceEqDiff, reduceAdd, reduceLeDiff, reduceMul, Int.reduceEq], by simp only [SB, f3, hb6, len_sim ty37 rfl, reduceLT, reduceEqDiff, reduceAdd, reduceLeDiff, reduceMul, Int.reduceEq], by simp only [SB, f3, hb6, len_sim ty37 rfl, reduceLT, reduceEqDiff, reduceAdd, reduceLeDiff, reduceMul, Int.reduceEq], by simp only [SB, f3, hb6, len_sim ty37 rfl, reduceLT, reduceEqDiff, reduceAdd, reduceLeDiff, reduceMul, Int.reduceEq], (o11.same (by simp only [SB, f3, hb6, reduceLT, reduceEqDiff, reduceAdd, reduceLeDiff, reduceMul, Int.reduceEq])), by simp only [SB, f3, hb6, len_sim ty37 rfl, reduceLT, reduceEqDiff, reduceAdd, reduceLeDiff, reduceMul, Int.reduceEq] <;> rfl, (o9.same (by simp only [SB, f3, hb6, reduceLT, reduceEqDiff, reduceAdd, reduceLeDiff, reduceMul, Int.reduceEq]))⟩ ?_
      rintro a3 H5 ⟨kp3, kh5, e16, e17, e18, e19, o14, e20, o16⟩
      have f4 := And.intro f3 (And.intro hb6 (And.intro (KpF kp3) (And.intro (KHF kh5) (And.intro e16 (And.intro e17 (And.intro e18 (And.intro e19 (e20))))))))
      obtain ⟨u3, he2, hr1⟩ := bndE hr1
      refine U_cut (fun a' H' => ∃ c10 : Int, ∃ c11 : List Int, ∃ c12 : List Int, ∃ x_2 : Int, u3 = .n (c10, c11, c12, x_2) ∧ ∃ v6, Kp [12, 38] 39 a' a3 ∧ KH [106, 174, 190, 191, 259, 5, 67, 69, 7, 8] H' H5 ∧ Own [67] H' v1 1 (c11.map (eI .u64)) ∧ Own [106, 174, 191, 259] H' v6 1 (c12.map eInt) ∧ a'.get 38 = .int .i64 x_2 ∧ H'.get ⟨5, H0.next (5)⟩ = some ⟨1, [[.int .i64 without_1]]⟩ ∧ H'.get ⟨7, H1.next (7)⟩ = some ⟨1, [[.pb ⟨69, g1⟩ 0 0]]⟩ ∧ H'.get ⟨8, H1.next (8)⟩ = some ⟨1, [[v6]]⟩ ∧ H'.get ⟨69, g1⟩ = some ⟨2, [[.int .i64 c10, v1]]⟩) (U_block (U_loop (fun y a' H' => match y with | (m4, c10, c11, c12, x_2) => loopE m4 (fun s => p_graph_Graph_Away_b2 fuel without_1 r3 s.1 s.2.1 s.2.2.1 s.2.2.2) (c10, c11, c12, x_2) = some u3 ∧ ∃ v6, Kp [12, 38] 39 a' a3 ∧ KH [106, 174, 190, 191, 259, 5, 67, 69, 7, 8] H' H5 ∧ Own [67] H' v1 1 (c11.map (eI .u64)) ∧ Own [106, 174, 191, 259] H' v6 1 (c12.map eInt) ∧ a'.get 38 = .int .i64 x_2 ∧ H'.get ⟨5, H0.next (5)⟩ = some ⟨1, [[.int .i64 without_1]]⟩ ∧ H'.get ⟨7, H1.next (7)⟩ = some ⟨1, [[.pb ⟨69, g1⟩ 0 0]]⟩ ∧ H'.get ⟨8, H1.next (8)⟩ = some ⟨1, [[v6]]⟩ ∧ H'.get ⟨69, g1⟩ = some ⟨2, [[.int .i64 c10, v1]]⟩ : (Nat × Int × (List Int) × (List Int) × Int) → Fr → Heap → Prop) (fun y : Nat × Int × (List Int) × (List Int) × Int => y.1) (fuel, c4, c5, l1, 0) ?_ ?_)) ?_
      · exact ⟨he2, _, by simp only [SB, f4, reduceLT, reduceEqDiff, reduceAdd, reduceLeDiff, reduceMul, Int.reduceEq], by simp only [SB, f4, reduceLT, reduceEqDiff, reduceAdd, reduceLeDiff, reduceMul, Int.reduceEq], (o16.same (by simp only [SB, f4, reduceLT, reduceEqDiff, reduceAdd, reduceLeDiff, reduceMul, Int.reduceEq])), (o14.same (by simp only [SB, f4, reduceLT, reduceEqDiff, reduceAdd, reduceLeDiff, reduceMul, Int.reduceEq])), by simp only [SB, f4, len_sim ty37 rfl, reduceLT, reduceEqDiff, reduceAdd, reduceLeDiff, reduceMul, Int.reduceEq], by simp only [SB, f4, len_sim ty37 rfl, reduceLT, reduceEqDiff, reduceAdd, reduceLeDiff, reduceMul, Int.reduceEq] <;> rfl, by simp only [SB, f4, len_sim ty37 rfl, reduceLT, reduceEqDiff, reduceAdd, reduceLeDiff, reduceMul, Int.reduceEq] <;> rfl, by simp only [SB, f4, len_sim ty37 rfl, reduceLT, reduceEqDiff, reduceAdd, reduceLeDiff, reduceMul, Int.reduceEq] <;> rfl, by simp only [SB, f4, len_sim ty37 rfl, reduceLT, reduceEqDiff, reduceAdd, reduceLeDiff, reduceMul, Int.reduceEq] <;> rfl⟩
      ·
        rintro ⟨m4, c10, c11, c12, x_2⟩ a4 H6 ⟨hf4, v6, kp4, kh6, o17, o18, e21, e22, e23, e24, e25⟩
        obtain ⟨m4', m4_lt, u4, hr2, hl4⟩ := loopE_step hf4
        replace hr2 : p_graph_Graph_Away_b2 fuel without_1 r3 c10 c11 c12 x_2 = some u4 := hr2
        unfold p_graph_Graph_Away_b2 at hr2
        have f5 := And.intro f4 (And.intro e21 (And.intro e22 (And.intro e23 (And.intro e24 (And.intro e25 (And.intro (KpF kp4) ((KHF kh6))))))))
        refine U_seq ?_
        refine U_reg ?_
        simp only [SB, f5, reduceLT, reduceEqDiff, reduceAdd, reduceLeDiff, reduceMul, Int.reduceEq]
        refine hold_intro ?_
        refine U_seq ?_
        rcases Bool.eq_false_or_eq_true (decide (x_2 < (r3.length : Int))) with hb7 | hb7
        ·
          rw [if_pos hb7] at hr2
          refine U_condT (by simp only [SB, f5, hb7, reduceLT, reduceEqDiff, reduceAdd, reduceLeDiff, reduceMul, Int.reduceEq]) ?_
          refine U_skip ?_
          refine U_seq ?_
          refine U_block ?_
          refine U_seq ?_
          obtain ⟨x2, kx2, hr2⟩ := bndO hr2
          refine U_reg ?_
          simp only [SB, ty37, ty3, iia_sim (f := eInt) ty37 rfl ty3 kx2 rfl, row_sim (f := eInt) kx2, f5, hb7, reduceLT, reduceEqDiff, reduceAdd, reduceLeDiff, reduceMul, Int.reduceEq]
          refine hold_intro ?_
          refine U_at (fun a' H' => Kp [12] 39 a' a4 ∧ H6 = H' ∧ a'.get 12 = .int .i64 x2 ∧ a'.get 39 = .bool (decide (x_2 < (r3.length : Int))) ∧ Own [106, 174, 191, 259] H' v6 1 (c12.map eInt) ∧ Own [67] H' v1 1 (c11.map (eI .u64))) ⟨by simp only [SB, f5, hb7, reduceLT, reduceEqDiff, reduceAdd, reduceLeDiff, reduceMul, Int.reduceEq], rfl, by simp only [SB, f5, hb7, ty37, ty3, iia_sim (f := eInt) ty37 rfl ty3 kx2 rfl, row_sim (f := eInt) kx2, reduceLT, reduceEqDiff, reduceAdd, reduceLeDiff, reduceMul, Int.reduceEq], by simp only [SB, f5, hb7, ty37, ty3, iia_sim (f := eInt) ty37 rfl ty3 kx2 rfl, row_sim (f := eInt) kx2, reduceLT, reduceEqDiff, reduceAdd, reduceLeDiff, reduceMul, Int.reduceEq], (o18.same (by simp only [SB, f5, hb7, reduceLT, reduceEqDiff, reduceAdd, reduceLeDiff, reduceMul, Int.reduceEq])), (o17.same (by simp only [SB, f5, hb7, reduceLT, reduceEqDiff, reduceAdd, reduceLeDiff, reduceMul, Int.reduceEq]))⟩ ?_
          rintro a5 H7 ⟨kp5, rfl, e27, e28, o21, o23⟩
          have f6 := And.intro f5 (And.intro hb7 (And.intro (KpF kp5) (And.intro e27 (e28))))
          refine U_renC (kb := 8) (gb := H1.next (8)) (D := [106, 174, 191, 259]) 0 (259) (o21.same (by simp only [SB, f6, reduceLT, reduceEqDiff, reduceAdd, reduceLeDiff, reduceMul, Int.reduceEq])) (by simp only [SB, f6, reduceLT, reduceEqDiff, reduceAdd, reduceLeDiff, reduceMul, Int.reduceEq] <;> rfl) rfl (by simp only [SB, f6, reduceLT, reduceEqDiff, reduceAdd, reduceLeDiff, reduceMul, Int.reduceEq]) (by simp only [ne_eq, SB, f6, reduceLT, reduceEqDiff, reduceAdd, reduceLeDiff, reduceMul, Int.reduceEq]) ?_
          intro v7 H8 o24 hb8 kh7
          simp only [SB] at hb8
          refine U_at (fun a' H' => Kp [] 39 a' a5 ∧ KH [106, 174, 191, 259, 8] H' H6 ∧ Own [259] H' v7 1 (c12.map eInt) ∧ H'.get ⟨8, H1.next (8)⟩ = some ⟨1, [[v7]]⟩ ∧ Own [67] H' v1 1 (c11.map (eI .u64))) ⟨by simp only [SB, f6, hb8, KHF kh7, reduceLT, reduceEqDiff, reduceAdd, reduceLeDiff, reduceMul, Int.reduceEq], by simp only [SB, f6, hb8, KHF kh7, reduceLT, reduceEqDiff, reduceAdd, reduceLeDiff, reduceMul, Int.reduceEq], (o24.same (by simp only [SB, f6, hb8, KHF kh7, reduceLT, reduceEqDiff, reduceAdd, reduceLeDiff, reduceMul, Int.reduceEq])), by simp only [SB, f6, hb8, KHF kh7, ty37, ty3, iia_sim (f := eInt) ty37 rfl ty3 kx2 rfl, row_sim (f := eInt) kx2, reduceLT, reduceEqDiff, reduceAdd, reduceLeDiff, reduceMul, Int.reduceEq] <;> rfl, (o23.same (by simp only [SB, f6, hb8, KHF kh7, reduceLT, reduceEqDiff, reduceAdd, reduceLeDiff, reduceMul, Int.reduceEq]))⟩ ?_
          rintro a6 H9 ⟨kp6, kh8, o27, e29, o29⟩
          have f7 := And.intro f6 (And.intro hb8 (And.intro (KHF kh7) (And.intro (KpF kp6) (And.intro (KHF kh8) (e29)))))
          obtain ⟨⟨m5, m6⟩, km5, hr2⟩ := bndO hr2
          dsimp only at hr2
          refine U_reg ?_
          simp only [SB, f7, reduceLT, reduceEqDiff, reduceAdd, reduceLeDiff, reduceMul, Int.reduceEq]
          refine callH (w_graph_Graph_Away_1 (175) (k1q := 5) (g1q := H0.next (5)) (k2q := 7) (g2q := H1.next (7)) (k2_0q := 69) (g2_0q := g1) (k2_0_1q := 67) (v2_0_1q := v1) (k3q := 8) (g3q := H1.next (8)) (k3_0q := 259) (v3_0q := v7) km5 (by simp only [SB, f7, reduceLT, reduceEqDiff, reduceAdd, reduceLeDiff, reduceMul, Int.reduceEq]) (by simp only [SB, f7, reduceLT, reduceEqDiff, reduceAdd, reduceLeDiff, reduceMul, Int.reduceEq]) (by simp only [SB, f7, reduceLT, reduceEqDiff, reduceAdd, reduceLeDiff, reduceMul, Int.reduceEq]) (by simp only [SB, f7, reduceLT, reduceEqDiff, reduceAdd, reduceLeDiff, reduceMul, Int.reduceEq]) (by simp only [SB, f7, reduceLT, reduceEqDiff, reduceAdd, reduceLeDiff, reduceMul, Int.reduceEq]) (by simp only [SB, f7, reduceLT, reduceEqDiff, reduceAdd, reduceLeDiff, reduceMul, Int.reduceEq]) (by simp only [SB, f7, reduceLT, reduceEqDiff, reduceAdd, reduceLeDiff, reduceMul, Int.reduceEq] <;> rfl) (by simp only [SB, f7, reduceLT, reduceEqDiff, reduceAdd, reduceLeDiff, reduceMul, Int.reduceEq] <;> rfl) (by simp only [SB, f7, reduceLT, reduceEqDiff, reduceAdd, reduceLeDiff, reduceMul, Int.reduceEq] <;> rfl) (o29.same (by simp only [SB, f7, reduceLT, reduceEqDiff, reduceAdd, reduceLeDiff, reduceMul, Int.reduceEq])) (by simp only [SB, f7, reduceLT, reduceEqDiff, reduceAdd, reduceLeDiff, reduceMul, Int.reduceEq] <;> rfl) (o27.same (by simp only [SB, f7, reduceLT, reduceEqDiff, reduceAdd, reduceLeDiff, reduceMul, Int.reduceEq]))) ?_
          rintro rv3 H10 ⟨v9, rfl, kh9, hb9, hb11, hb10, o30, hb12, o31⟩
          try simp only [Nat.add_assoc, reduceAdd] at kh9 hb9 hb11 hb10 o30 hb12 o31
          try simp only [Nat.add_assoc, reduceAdd]
          simp only [SB, f7, KHF kh9, hb9, hb11, hb10, hb12, reduceLT, reduceEqDiff, reduceAdd, reduceLeDiff, reduceMul, Int.reduceEq]
          refine hold_intro ?_
          refine U_reg ?_
          simp only [SB, f7, KHF kh9, hb9, hb11, hb10, hb12, reduceLT, reduceEqDiff, reduceAdd, reduceLeDiff, reduceMul, Int.reduceEq]
          refine hold_intro ?_
          replace hr2 := Option.some.inj hr2
          subst hr2
          exact ⟨(m4', m5.n, m5.words, m6, IntKind.wrap .i64 (x_2 + 1)), m4_lt, hl4, _, by simp only [SB, f7, KHF kh9, hb9, hb11, hb10, hb12, reduceLT, reduceEqDiff, reduceAdd, reduceLeDiff, reduceMul, Int.reduceEq], by simp only [SB, f7, KHF kh9, hb9, hb11, hb10, hb12, reduceLT, reduceEqDiff, reduceAdd, reduceLeDiff, reduceMul, Int.reduceEq], (o30.same (by simp only [SB, f7, KHF kh9, hb9, hb11, hb10, hb12, reduceLT, reduceEqDiff, reduceAdd, reduceLeDiff, reduceMul, Int.reduceEq])), (Own.sub (o31.same (by simp only [SB, f7, KHF kh9, hb9, hb11, hb10, hb12, reduceLT, reduceEqDiff, reduceAdd, reduceLeDiff, reduceMul, Int.reduceEq])) (by simp only [SB, reduceEqDiff])), by simp only [SB, f7, KHF kh9, hb9, hb11, hb10, hb12, reduceLT, reduceEqDiff, reduceAdd, reduceLeDiff, reduceMul, Int.reduceEq], by simp only [SB, f7, KHF kh9, hb9, hb11, hb10, hb12, reduceLT, reduceEqDiff, reduceAdd, reduceLeDiff, reduceMul, Int.reduceEq] <;> rfl, by simp only [SB, f7, KHF kh9, hb9, hb11, hb10, hb12, reduceLT, reduceEqDiff, reduceAdd, reduceLeDiff, reduceMul, Int.reduceEq] <;> rfl, by simp only [SB, f7, KHF kh9, hb9, hb11, hb10, hb12, reduceLT, reduceEqDiff, reduceAdd, reduceLeDiff, reduceMul, Int.reduceEq] <;> rfl, by simp only [SB, f7, KHF kh9, hb9, hb11, hb10, hb12, reduceLT, reduceEqDiff, reduceAdd, reduceLeDiff, reduceMul, Int.reduceEq] <;> rfl⟩
        ·
          rw [if_neg (by rw [hb7]; decide)] at hr2
          refine U_condF (by simp only [SB, f5, hb7, reduceLT, reduceEqDiff, reduceAdd, reduceLeDiff, reduceMul, Int.reduceEq]) ?_
          refine U_exit rfl ?_
          replace hr2 := Option.some.inj hr2
          subst hr2
          exact ⟨_, _, _, _, hl4, _, by simp only [SB, f5, hb7, reduceLT, reduceEqDiff, reduceAdd, reduceLeDiff, reduceMul, Int.reduceEq], by simp only [SB, f5, hb7, reduceLT, reduceEqDiff, reduceAdd, reduceLeDiff, reduceMul, Int.reduceEq], (o17.same (by simp only [SB, f5, hb7, reduceLT, reduceEqDiff, reduceAdd, reduceLeDiff, reduceMul, Int.reduceEq])), (o18.same (by simp only [SB, f5, hb7, reduceLT, reduceEqDiff, reduceAdd, reduceLeDiff, reduceMul, Int.reduceEq])), by simp only [SB, f5, hb7, reduceLT, reduceEqDiff, reduceAdd, reduceLeDiff, reduceMul, Int.reduceEq], by simp only [SB, f5, hb7, reduceLT, reduceEqDiff, reduceAdd, reduceLeDiff, reduceMul, Int.reduceEq] <;> rfl, by simp only [SB, f5, hb7, reduceLT, reduceEqDiff, reduceAdd, reduceLeDiff, reduceMul, Int.reduceEq] <;> rfl, by simp only [SB, f5, hb7, reduceLT, reduceEqDiff, reduceAdd, reduceLeDiff, reduceMul, Int.reduceEq] <;> rfl, by simp only [SB, f5, hb7, reduceLT, reduceEqDiff, reduceAdd, reduceLeDiff, reduceMul, Int.reduceEq] <;> rfl⟩
      ·
        rintro a7 H11 ⟨c13, c14, c15, x_3, rfl, v10, kp7, kh10, o32, o33, e30, e31, e32, e33, e34⟩
        replace hr1 := outE_n hr1
        dsimp only at hr1
        have f8 := And.intro f4 (And.intro e30 (And.intro e31 (And.intro e32 (And.intro e33 (And.intro e34 (And.intro (KpF kp7) ((KHF kh10))))))))
        replace hr1 := Option.some.inj hr1
        subst hr1
        exact ⟨(m3', c13, c14, c15), m3_lt, hl2, _, by simp only [SB, f8, reduceLT, reduceEqDiff, reduceAdd, reduceLeDiff, reduceMul, Int.reduceEq], by simp only [SB, f8, reduceLT, reduceEqDiff, reduceAdd, reduceLeDiff, reduceMul, Int.reduceEq], (o32.same (by simp only [SB, f8, reduceLT, reduceEqDiff, reduceAdd, reduceLeDiff, reduceMul, Int.reduceEq])), (o33.same (by simp only [SB, f8, reduceLT, reduceEqDiff, reduceAdd, reduceLeDiff, reduceMul, Int.reduceEq])), by simp only [SB, f8, reduceLT, reduceEqDiff, reduceAdd, reduceLeDiff, reduceMul, Int.reduceEq] <;> rfl, by simp only [SB, f8, reduceLT, reduceEqDiff, reduceAdd, reduceLeDiff, reduceMul, Int.reduceEq] <;> rfl, by simp only [SB, f8, reduceLT, reduceEqDiff, reduceAdd, reduceLeDiff, reduceMul, Int.reduceEq] <;> rfl, by simp only [SB, f8, reduceLT, reduceEqDiff, reduceAdd, reduceLeDiff, reduceMul, Int.reduceEq] <;> rfl⟩
    ·
      rw [if_neg (by rw [hb6]; decide)] at hr1
      refine U_condF (by simp only [SB, f3, hb6, ty37, Own.len (P := Try.prog) o10 ty37 rfl, reduceLT, reduceEqDiff, reduceAdd, reduceLeDiff, reduceMul, Int.reduceEq]) ?_
      refine U_exit rfl ?_
      replace hr1 := Option.some.inj hr1
      subst hr1
      exact ⟨_, _, _, hl2, _, by simp only [SB, f3, hb6, reduceLT, reduceEqDiff, reduceAdd, reduceLeDiff, reduceMul, Int.reduceEq], by simp only [SB, f3, hb6, reduceLT, reduceEqDiff, reduceAdd, reduceLeDiff, reduceMul, Int.reduceEq], (o9.same (by simp only [SB, f3, hb6, reduceLT, reduceEqDiff, reduceAdd, reduceLeDiff, reduceMul, Int.reduceEq])), (o10.same (by simp only [SB, f3, hb6, reduceLT, reduceEqDiff, reduceAdd, reduceLeDiff, reduceMul, Int.reduceEq])), by simp only [SB, f3, hb6, ty37, Own.len (P := Try.prog) o10 ty37 rfl, reduceLT, reduceEqDiff, reduceAdd, reduceLeDiff, reduceMul, Int.reduceEq] <;> rfl, by simp only [SB, f3, hb6, ty37, Own.len (P := Try.prog) o10 ty37 rfl, reduceLT, reduceEqDiff, reduceAdd, reduceLeDiff, reduceMul, Int.reduceEq] <;> rfl, by simp only [SB, f3, hb6, ty37, Own.len (P := Try.prog) o10 ty37 rfl, reduceLT, reduceEqDiff, reduceAdd, reduceLeDiff, reduceMul, Int.reduceEq] <;> rfl, by simp only [SB, f3, hb6, ty37, Own.len (P := Try.prog) o10 ty37 rfl, reduceLT, reduceEqDiff, reduceAdd, reduceLeDiff, reduceMul, Int.reduceEq] <;> rfl⟩
  ·
    rintro a8 H12 ⟨c16, c17, c18, rfl, v11, kp8, kh11, o34, o35, e35, e36, e37, e38⟩
    replace h := outE_n h
    dsimp only at h
    have f9 := And.intro f2 (And.intro e35 (And.intro e36 (And.intro e37 (And.intro e38 (And.intro (KpF kp8) ((KHF kh11)))))))
    refine U_seq ?_
    refine U_reg ?_
    simp only [SB, ty44, f9, reduceLT, reduceEqDiff, reduceAdd, reduceLeDiff, reduceMul, Int.reduceEq]
    refine hold_intro ?_
    refine U_ret ?_
    replace h := Option.some.inj h
    subst h
    refine ⟨.pb ⟨69, g1⟩ 0 0, by simp only [ires, iress, Try.results29, SB, List.toList_toArray, ty44, f9, reduceLT, reduceEqDiff, reduceAdd, reduceLeDiff, reduceMul, Int.reduceEq], ?_⟩
    exact Fz_box (by simp only [SB, f9, ty44, reduceLT, reduceEqDiff, reduceAdd, reduceLeDiff, reduceMul, Int.reduceEq] <;> rfl) (.cons (.cl (closed_int _ _)) (.cons (((o34.same (by simp only [SB, f9, reduceLT, reduceEqDiff, reduceAdd, reduceLeDiff, reduceMul, Int.reduceEq]))).fz (cls (cl_eI .u64) _)) (.nil)))

theorem w_dyehouselaw19_works {fuel : Nat} {r0_ : Bool} (h : p_dyehouselaw19_works fuel = some r0_) : Pure1 Try.prog 14 [] (.bool r0_) := by
  refine Pure1_fz all_cl0 ?_
  refine U_call 0 Try.func14 rfl (by kernel_rfl) (by simp [Try.ntmps14]) ?_
  rw [Try.ntmps14]
  refine U_at (fun a' H' => a'.n = 66 ∧ a'.b = 0) ⟨rfl, rfl⟩ ?_
  rintro a0 H0 ⟨hn0, hn1⟩
  unfold p_dyehouselaw19_works at h
  refine U_seq ?_
  refine U_reg ?_
  simp only [SB, hn0, hn1, reduceLT, reduceEqDiff, reduceAdd, reduceLeDiff, reduceMul, Int.reduceEq]
  refine hold_intro ?_
  refine U_seq ?_
  refine U_reg ?_
  simp only [SB, hn0, hn1, reduceLT, reduceEqDiff, reduceAdd, reduceLeDiff, reduceMul, Int.reduceEq]
  refine hold_intro ?_
  refine U_seq ?_
  obtain ⟨r1, kr1, h⟩ := bndO h
  obtain ⟨r2, kr2, h⟩ := bndO h
  obtain ⟨r3, kr3, h⟩ := bndO h
  obtain ⟨r4, kr4, h⟩ := bndO h
  refine U_reg ?_
  simp only [SB, ty64, ty9, hn0, hn1, reduceLT, reduceEqDiff, reduceAdd, reduceLeDiff, reduceMul, Int.reduceEq]
  refine callD [5] (w_dyehouselaw19_works_1 kr1) (.cons (((Own.mk (D := [5]) (rows := ([(⟨#[99]⟩ : ByteArray), (⟨#[98]⟩ : ByteArray), (⟨#[99]⟩ : ByteArray)] : List ByteArray).map eStr) (id := ⟨5, H0.next (5)⟩) (by simp only [SB, reduceEqDiff]) (by simp only [SB]) (by simp only [SB, hn0, hn1, Same_only, only_get, reduceLT, reduceEqDiff, reduceAdd, reduceLeDiff, reduceMul, Int.reduceEq] <;> rfl))).fz (cls cl_eStr _)) (.nil)) ?_
  intro H1 kh1
  simp only [SB, ty64, ty9, ty63, fk63, hn0, hn1, KHF kh1, reduceLT, reduceEqDiff, reduceAdd, reduceLeDiff, reduceMul, Int.reduceEq]
  refine callD [9] (w_dyehouselaw19_works_1 kr2) (.cons (((Own.mk (D := [9]) (rows := ([(⟨#[100]⟩ : ByteArray), (⟨#[98]⟩ : ByteArray)] : List ByteArray).map eStr) (id := ⟨9, H1.next (9)⟩) (by simp only [SB, reduceEqDiff]) (by simp only [SB]) (by simp only [SB, hn0, hn1, KHF kh1, Same_only, only_get, reduceLT, reduceEqDiff, reduceAdd, reduceLeDiff, reduceMul, Int.reduceEq] <;> rfl))).fz (cls cl_eStr _)) (.nil)) ?_
  intro H2 kh2
  simp only [SB, ty64, ty9, ty63, fk63, hn0, hn1, KHF kh1, KHF kh2, reduceLT, reduceEqDiff, reduceAdd, reduceLeDiff, reduceMul, Int.reduceEq]
  refine callD [13] (w_dyehouselaw19_works_1 kr3) (.cons (((Own.mk (D := [13]) (rows := ([(⟨#[100]⟩ : ByteArray)] : List ByteArray).map eStr) (id := ⟨13, H2.next (13)⟩) (by simp only [SB, reduceEqDiff]) (by simp only [SB]) (by simp only [SB, hn0, hn1, KHF kh1, KHF kh2, Same_only, only_get, reduceLT, reduceEqDiff, reduceAdd, reduceLeDiff, reduceMul, Int.reduceEq] <;> rfl))).fz (cls cl_eStr _)) (.nil)) ?_
  intro H3 kh3
  simp only [SB, ty64, ty9, ty63, fk63, hn0, hn1, KHF kh1, KHF kh2, KHF kh3, reduceLT, reduceEqDiff, reduceAdd, reduceLeDiff, reduceMul, Int.reduceEq]
  refine callD [18] (w_dyehouselaw19_works_1 kr4) (.cons (((Own.mk (D := [18]) (rows := ([(⟨#[100]⟩ : ByteArray)] : List ByteArray).map eStr) (id := ⟨18, H3.next (18)⟩) (by simp only [SB, reduceEqDiff]) (by simp only [SB]) (by simp only [SB, hn0, hn1, KHF kh1, KHF kh2, KHF kh3, Same_only, only_get, reduceLT, reduceEqDiff, reduceAdd, reduceLeDiff, reduceMul, Int.reduceEq] <;> rfl))).fz (cls cl_eStr _)) (.nil)) ?_
  intro H4 kh4
  simp only [SB, ty64, ty9, ty63, fk63, ty24, ty26, fk26, hn0, hn1, KHF kh1, KHF kh2, KHF kh3, KHF kh4, reduceLT, reduceEqDiff, reduceAdd, reduceLeDiff, reduceMul, Int.reduceEq]
  refine hold_intro ?_
  refine U_seq ?_
  refine U_rows (id := ⟨21, H4.next (21)⟩) (([(⟨(⟨#[97]⟩ : ByteArray), false, [], r1⟩ : Bl), (⟨(⟨#[98]⟩ : ByteArray), false, [], r2⟩ : Bl), (⟨(⟨#[99]⟩ : ByteArray), false, [], r3⟩ : Bl), (⟨(⟨#[100]⟩ : ByteArray), false, [], []⟩ : Bl), (⟨(⟨#[101]⟩ : ByteArray), false, [], r4⟩ : Bl)] : List Bl).map eBl) (by simp only [SB, hn0, hn1, KHF kh1, KHF kh2, KHF kh3, KHF kh4, ty64, ty9, ty63, fk63, ty24, ty26, fk26, reduceLT, reduceEqDiff, reduceAdd, reduceLeDiff, reduceMul, Int.reduceEq] <;> rfl) (SubRows_cons (SubRow_cons .refl (SubRow_cons .refl (SubRow_cons sub_nils (SubRow_cons .refl (SubRow_nil))))) (SubRows_cons (SubRow_cons .refl (SubRow_cons .refl (SubRow_cons sub_nils (SubRow_cons .refl (SubRow_nil))))) (SubRows_cons (SubRow_cons .refl (SubRow_cons .refl (SubRow_cons sub_nils (SubRow_cons .refl (SubRow_nil))))) (SubRows_cons (SubRow_cons .refl (SubRow_cons .refl (SubRow_cons sub_nils (SubRow_cons sub_nils (SubRow_nil))))) (SubRows_cons (SubRow_cons .refl (SubRow_cons .refl (SubRow_cons sub_nils (SubRow_cons .refl (SubRow_nil))))) (SubRows_nil)))))) ?_
  refine U_at (fun a' H' => Kp [0, 1, 2] 4 a' a0 ∧ KH [13, 18, 2, 21, 5, 9] H' H0 ∧ a'.get 2 = .pb ⟨2, H4.next (2)⟩ 0 0 ∧ Own [21] H' (.sb ⟨21, H4.next (21)⟩ 0 5 true) 4 (([(⟨(⟨#[97]⟩ : ByteArray), false, [], r1⟩ : Bl), (⟨(⟨#[98]⟩ : ByteArray), false, [], r2⟩ : Bl), (⟨(⟨#[99]⟩ : ByteArray), false, [], r3⟩ : Bl), (⟨(⟨#[100]⟩ : ByteArray), false, [], []⟩ : Bl), (⟨(⟨#[101]⟩ : ByteArray), false, [], r4⟩ : Bl)]).map eBl) ∧ H'.get ⟨2, H4.next (2)⟩ = some ⟨5, [[.bool false, .str (⟨#[]⟩ : ByteArray), .nils, .nils, .sb ⟨21, H4.next (21)⟩ 0 5 true]]⟩) ⟨by simp only [SB, hn0, hn1, KHF kh1, KHF kh2, KHF kh3, KHF kh4, reduceLT, reduceEqDiff, reduceAdd, reduceLeDiff, reduceMul, Int.reduceEq], by simp only [SB, hn0, hn1, KHF kh1, KHF kh2, KHF kh3, KHF kh4, reduceLT, reduceEqDiff, reduceAdd, reduceLeDiff, reduceMul, Int.reduceEq], by simp only [SB, hn0, hn1, KHF kh1, KHF kh2, KHF kh3, KHF kh4, ty64, ty9, ty63, fk63, ty24, ty26, fk26, reduceLT, reduceEqDiff, reduceAdd, reduceLeDiff, reduceMul, Int.reduceEq], (Own.mk (id := ⟨21, H4.next (21)⟩) (by simp only [SB, reduceEqDiff]) (by simp only [SB]) (by simp only [SB, hn0, hn1, KHF kh1, KHF kh2, KHF kh3, KHF kh4, reduceLT, reduceEqDiff, reduceAdd, reduceLeDiff, reduceMul, Int.reduceEq] <;> rfl)), by simp only [SB, hn0, hn1, KHF kh1, KHF kh2, KHF kh3, KHF kh4, ty64, ty9, ty63, fk63, ty24, ty26, fk26, reduceLT, reduceEqDiff, reduceAdd, reduceLeDiff, reduceMul, Int.reduceEq] <;> rfl⟩ ?_
  rintro a1 H5 ⟨kp1, kh5, e1, o10, e2⟩
  have f1 := And.intro hn0 (And.intro hn1 (And.intro (KHF kh1) (And.intro (KHF kh2) (And.intro (KHF kh3) (And.intro (KHF kh4) (And.intro (KpF kp1) (And.intro (KHF kh5) (And.intro e1 (e2)))))))))
  obtain ⟨r5, kr5, h⟩ := bndO h
  refine U_reg ?_
  simp only [SB, ty26, f1, reduceLT, reduceEqDiff, reduceAdd, reduceLeDiff, reduceMul, Int.reduceEq]
  refine callD [21] (w_graph_New kr5) (.cons (Fz_agg (.cons (.cl (closed_bool _)) (.cons (.cl (closed_str _)) (.cons (.nils) (.cons (.nils) (.cons (((o10.same (by simp only [SB, f1, Same_only, only_get, reduceLT, reduceEqDiff, reduceAdd, reduceLeDiff, reduceMul, Int.reduceEq]))).fz (cls cl_eBl _)) (.nil))))))) (.nil)) ?_
  intro H6 kh6
  simp only [SB, ty26, f1, KHF kh6, reduceLT, reduceEqDiff, reduceAdd, reduceLeDiff, reduceMul, Int.reduceEq]
  refine hold_intro ?_
  refine U_seq ?_
  refine U_seq ?_
  refine U_reg ?_
  simp only [SB, ty29, nil_cmp (P := Try.prog) ty29 rfl, f1, KHF kh6, reduceLT, reduceEqDiff, reduceAdd, reduceLeDiff, reduceMul, Int.reduceEq]
  refine hold_intro ?_
  refine U_condF (by simp only [SB, f1, KHF kh6, reduceLT, reduceEqDiff, reduceAdd, reduceLeDiff, reduceMul, Int.reduceEq]) ?_
  refine U_skip ?_
  refine U_seq ?_
  refine U_at (fun a' H' => Kp [3] 4 a' a1 ∧ KH [21] H' H5 ∧ a'.get 3 = .pim [egraph_Graph r5] 0 0) ⟨by simp only [SB, f1, KHF kh6, reduceLT, reduceEqDiff, reduceAdd, reduceLeDiff, reduceMul, Int.reduceEq], by simp only [SB, f1, KHF kh6, reduceLT, reduceEqDiff, reduceAdd, reduceLeDiff, reduceMul, Int.reduceEq], by simp only [SB, f1, KHF kh6, ty29, nil_cmp (P := Try.prog) ty29 rfl, reduceLT, reduceEqDiff, reduceAdd, reduceLeDiff, reduceMul, Int.reduceEq]⟩ ?_
  rintro a2 H7 ⟨kp2, kh7, e3⟩
  have f2 := And.intro f1 (And.intro (KHF kh6) (And.intro (KpF kp2) (And.intro (KHF kh7) (e3))))
  obtain ⟨r6, kr6, h⟩ := bndO h
  obtain ⟨r7, kr7, h⟩ := bndO h
  obtain ⟨b1, kb1, h⟩ := bndO h
  obtain ⟨b2, kb2, h⟩ := bndO h
  obtain ⟨b3, kb3, h⟩ := bndO h
  obtain ⟨b4, kb4, h⟩ := bndO h
  obtain ⟨b5, kb5, h⟩ := bndO h
  obtain ⟨b6, kb6, h⟩ := bndO h
  refine U_cut (fun a' H' => KH [29, 34, 40] H' H7 ∧ Kp [0] 4 a' a2 ∧ a'.get 0 = .bool b6) ?_ ?_
  · refine U_reg ?_
    rcases Bool.eq_false_or_eq_true (r7) with hb2 | hb2
    ·
      have hx1 := hb2
      rw [if_pos hx1] at kb1
      obtain ⟨r8, kr8, kb1⟩ := bndO kb1
      obtain ⟨r9, kr9, kb1⟩ := bndO kb1
      have hq1 := (Option.some.inj kb1).symm
      rcases Bool.eq_false_or_eq_true (r9) with hb3 | hb3
      ·
        have hx2 : b1 = true := by simp only [SB, hb2, hq1, hb3]
        rw [if_pos hx2] at kb2
        obtain ⟨r10, kr10, kb2⟩ := bndO kb2
        obtain ⟨r11, kr11, kb2⟩ := bndO kb2
        have hq2 := (Option.some.inj kb2).symm
        rcases Bool.eq_false_or_eq_true (r11) with hb4 | hb4
        ·
          have hx3 : b2 = true := by simp only [SB, hb2, hq1, hb3, hq2, hb4]
          rw [if_pos hx3] at kb3
          obtain ⟨r12, kr12, kb3⟩ := bndO kb3
          obtain ⟨r13, kr13, kb3⟩ := bndO kb3
          have hq3 := (Option.some.inj kb3).symm
          rcases Bool.eq_false_or_eq_true (decide (r13 = 4)) with hb5 | hb5
          ·
            have hx4 : b3 = true := by simp only [SB, hb2, hq1, hb3, hq2, hb4, hq3, hb5]
            rw [if_pos hx4] at kb4
            obtain ⟨r14, kr14, kb4⟩ := bndO kb4
            have hq4 := (Option.some.inj kb4).symm
            rcases Bool.eq_false_or_eq_true (decide ((r14.length : Int) = 6)) with hb6 | hb6
            ·
              have hx5 : b4 = true := by simp only [SB, hb2, hq1, hb3, hq2, hb4, hq3, hb5, hq4, hb6]
              rw [if_pos hx5] at kb5
              obtain ⟨r15, kr15, kb5⟩ := bndO kb5
              have hq5 := (Option.some.inj kb5).symm
              rcases Bool.eq_false_or_eq_true (decide (r15 = 5)) with hb7 | hb7
              ·
                have hx6 : b5 = true := by simp only [SB, hb2, hq1, hb3, hq2, hb4, hq3, hb5, hq4, hb6, hq5, hb7]
                rw [if_pos hx6] at kb6
                obtain ⟨r16, kr16, kb6⟩ := bndO kb6
                obtain ⟨r17, kr17, kb6⟩ := bndO kb6
                have hq6 := (Option.some.inj kb6).symm
                simp only [SB, hb2, hq1, hb3, hq2, hb4, hq3, hb5, hq4, hb6, hq5, hb7, hq6, f2, reduceLT, reduceEqDiff, reduceAdd, reduceLeDiff, reduceMul, Int.reduceEq]
                refine callP (w_graph_Graph_Succ kr6) ?_
                simp only [SB, hb2, hq1, hb3, hq2, hb4, hq3, hb5, hq4, hb6, hq5, hb7, hq6, ty37, ty3, f2, reduceLT, reduceEqDiff, reduceAdd, reduceLeDiff, reduceMul, Int.reduceEq]
                refine callLM (w_dyehouseref12_Ints kr7) (.cons (.cl (cl_map cl_eInt _)) (.cons (((Own.mk (D := [29]) (rows := ([2, 1] : List Int).map eInt) (id := ⟨29, H7.next (29)⟩) (by simp only [SB, reduceEqDiff]) (by simp only [SB]) (by simp only [SB, f2, reduceLT, reduceEqDiff, reduceAdd, reduceLeDiff, reduceMul, Int.reduceEq] <;> rfl))).fz (cls cl_eInt _)) (.nil))) (flat_bool _) ?_
                simp only [SB, hb2, hq1, hb3, hq2, hb4, hq3, hb5, hq4, hb6, hq5, hb7, hq6, ty37, ty3, f2, reduceLT, reduceEqDiff, reduceAdd, reduceLeDiff, reduceMul, Int.reduceEq]
                refine callP (w_graph_Graph_Pred kr8) ?_
                simp only [SB, hb2, hq1, hb3, hq2, hb4, hq3, hb5, hq4, hb6, hq5, hb7, hq6, ty37, ty3, f2, reduceLT, reduceEqDiff, reduceAdd, reduceLeDiff, reduceMul, Int.reduceEq]
                refine callLM (w_dyehouseref12_Ints kr9) (.cons (.cl (cl_map cl_eInt _)) (.cons (((Own.mk (D := [34]) (rows := ([1, 2, 4] : List Int).map eInt) (id := ⟨34, H7.next (34)⟩) (by simp only [SB, reduceEqDiff]) (by simp only [SB]) (by simp only [SB, f2, reduceLT, reduceEqDiff, reduceAdd, reduceLeDiff, reduceMul, Int.reduceEq] <;> rfl))).fz (cls cl_eInt _)) (.nil))) (flat_bool _) ?_
                simp only [SB, hb2, hq1, hb3, hq2, hb4, hq3, hb5, hq4, hb6, hq5, hb7, hq6, ty37, ty3, f2, reduceLT, reduceEqDiff, reduceAdd, reduceLeDiff, reduceMul, Int.reduceEq]
                refine callP (w_graph_Graph_Order kr10) ?_
                simp only [SB, hb2, hq1, hb3, hq2, hb4, hq3, hb5, hq4, hb6, hq5, hb7, hq6, ty37, ty3, f2, reduceLT, reduceEqDiff, reduceAdd, reduceLeDiff, reduceMul, Int.reduceEq]
                refine callLM (w_dyehouseref12_Ints kr11) (.cons (.cl (cl_map cl_eInt _)) (.cons (((Own.mk (D := [40]) (rows := ([0, 1, 2, 3] : List Int).map eInt) (id := ⟨40, H7.next (40)⟩) (by simp only [SB, reduceEqDiff]) (by simp only [SB]) (by simp only [SB, f2, reduceLT, reduceEqDiff, reduceAdd, reduceLeDiff, reduceMul, Int.reduceEq] <;> rfl))).fz (cls cl_eInt _)) (.nil))) (flat_bool _) ?_
                simp only [SB, hb2, hq1, hb3, hq2, hb4, hq3, hb5, hq4, hb6, hq5, hb7, hq6, ty37, ty3, f2, reduceLT, reduceEqDiff, reduceAdd, reduceLeDiff, reduceMul, Int.reduceEq]
                refine callP (w_graph_Graph_Reached kr12) ?_
                simp only [SB, hb2, hq1, hb3, hq2, hb4, hq3, hb5, hq4, hb6, hq5, hb7, hq6, ty37, ty3, f2, reduceLT, reduceEqDiff, reduceAdd, reduceLeDiff, reduceMul, Int.reduceEq]
                refine callP (w_bits_Set_Count kr13) ?_
                simp only [SB, hb2, hq1, hb3, hq2, hb4, hq3, hb5, hq4, hb6, hq5, hb7, hq6, ty37, ty3, f2, reduceLT, reduceEqDiff, reduceAdd, reduceLeDiff, reduceMul, Int.reduceEq]
                refine callP (w_graph_Graph_Edges kr14) ?_
                simp only [SB, hb2, hq1, hb3, hq2, hb4, hq3, hb5, hq4, hb6, hq5, hb7, hq6, ty37, ty3, len_sim ty34 rfl, f2, reduceLT, reduceEqDiff, reduceAdd, reduceLeDiff, reduceMul, Int.reduceEq]
                refine callP (w_graph_Graph_Len kr15) ?_
                simp only [SB, hb2, hq1, hb3, hq2, hb4, hq3, hb5, hq4, hb6, hq5, hb7, hq6, ty37, ty3, len_sim ty34 rfl, f2, reduceLT, reduceEqDiff, reduceAdd, reduceLeDiff, reduceMul, Int.reduceEq]
                refine callP (w_graph_Graph_Away kr16) ?_
                simp only [SB, hb2, hq1, hb3, hq2, hb4, hq3, hb5, hq4, hb6, hq5, hb7, hq6, ty37, ty3, len_sim ty34 rfl, f2, reduceLT, reduceEqDiff, reduceAdd, reduceLeDiff, reduceMul, Int.reduceEq]
                refine callP (w_bits_Set_Count kr17) ?_
                simp only [SB, hb2, hq1, hb3, hq2, hb4, hq3, hb5, hq4, hb6, hq5, hb7, hq6, ty37, ty3, len_sim ty34 rfl, f2, reduceLT, reduceEqDiff, reduceAdd, reduceLeDiff, reduceMul, Int.reduceEq]
                refine hold_intro ?_
                exact ⟨by simp only [SB, f2, reduceLT, reduceEqDiff, reduceAdd, reduceLeDiff, reduceMul, Int.reduceEq], by simp only [SB, f2, reduceLT, reduceEqDiff, reduceAdd, reduceLeDiff, reduceMul, Int.reduceEq], by simp only [SB, f2, hb2, hq1, hb3, hq2, hb4, hq3, hb5, hq4, hb6, hq5, hb7, hq6, ty37, ty3, len_sim ty34 rfl, reduceLT, reduceEqDiff, reduceAdd, reduceLeDiff, reduceMul, Int.reduceEq]⟩
              ·
                have hx7 : b5 = false := by simp only [SB, hb2, hq1, hb3, hq2, hb4, hq3, hb5, hq4, hb6, hq5, hb7]
                rw [if_neg (by rw [hx7]; decide)] at kb6
                have hq7 := (Option.some.inj kb6).symm
                simp only [SB, hb2, hq1, hb3, hq2, hb4, hq3, hb5, hq4, hb6, hq5, hb7, hq7, f2, reduceLT, reduceEqDiff, reduceAdd, reduceLeDiff, reduceMul, Int.reduceEq]
                refine callP (w_graph_Graph_Succ kr6) ?_
                simp only [SB, hb2, hq1, hb3, hq2, hb4, hq3, hb5, hq4, hb6, hq5, hb7, hq7, ty37, ty3, f2, reduceLT, reduceEqDiff, reduceAdd, reduceLeDiff, reduceMul, Int.reduceEq]
                refine callLM (w_dyehouseref12_Ints kr7) (.cons (.cl (cl_map cl_eInt _)) (.cons (((Own.mk (D := [29]) (rows := ([2, 1] : List Int).map eInt) (id := ⟨29, H7.next (29)⟩) (by simp only [SB, reduceEqDiff]) (by simp only [SB]) (by simp only [SB, f2, reduceLT, reduceEqDiff, reduceAdd, reduceLeDiff, reduceMul, Int.reduceEq] <;> rfl))).fz (cls cl_eInt _)) (.nil))) (flat_bool _) ?_
                simp only [SB, hb2, hq1, hb3, hq2, hb4, hq3, hb5, hq4, hb6, hq5, hb7, hq7, ty37, ty3, f2, reduceLT, reduceEqDiff, reduceAdd, reduceLeDiff, reduceMul, Int.reduceEq]
                refine callP (w_graph_Graph_Pred kr8) ?_
                simp only [SB, hb2, hq1, hb3, hq2, hb4, hq3, hb5, hq4, hb6, hq5, hb7, hq7, ty37, ty3, f2, reduceLT, reduceEqDiff, reduceAdd, reduceLeDiff, reduceMul, Int.reduceEq]
                refine callLM (w_dyehouseref12_Ints kr9) (.cons (.cl (cl_map cl_eInt _)) (.cons (((Own.mk (D := [34]) (rows := ([1, 2, 4] : List Int).map eInt) (id := ⟨34, H7.next (34)⟩) (by simp only [SB, reduceEqDiff]) (by simp only [SB]) (by simp only [SB, f2, reduceLT, reduceEqDiff, reduceAdd, reduceLeDiff, reduceMul, Int.reduceEq] <;> rfl))).fz (cls cl_eInt _)) (.nil))) (flat_bool _) ?_
                simp only [SB, hb2, hq1, hb3, hq2, hb4, hq3, hb5, hq4, hb6, hq5, hb7, hq7, ty37, ty3, f2, reduceLT, reduceEqDiff, reduceAdd, reduceLeDiff, reduceMul, Int.reduceEq]
                refine callP (w_graph_Graph_Order kr10) ?_
                simp only [SB, hb2, hq1, hb3, hq2, hb4, hq3, hb5, hq4, hb6, hq5, hb7, hq7, ty37, ty3, f2, reduceLT, reduceEqDiff, reduceAdd, reduceLeDiff, reduceMul, Int.reduceEq]
                refine callLM (w_dyehouseref12_Ints kr11) (.cons (.cl (cl_map cl_eInt _)) (.cons (((Own.mk (D := [40]) (rows := ([0, 1, 2, 3] : List Int).map eInt) (id := ⟨40, H7.next (40)⟩) (by simp only [SB, reduceEqDiff]) (by simp only [SB]) (by simp only [SB, f2, reduceLT, reduceEqDiff, reduceAdd, reduceLeDiff, reduceMul, Int.reduceEq] <;> rfl))).fz (cls cl_eInt _)) (.nil))) (flat_bool _) ?_
                simp only [SB, hb2, hq1, hb3, hq2, hb4, hq3, hb5, hq4, hb6, hq5, hb7, hq7, ty37, ty3, f2, reduceLT, reduceEqDiff, reduceAdd, reduceLeDiff, reduceMul, Int.reduceEq]
                refine callP (w_graph_Graph_Reached kr12) ?_
                simp only [SB, hb2, hq1, hb3, hq2, hb4, hq3, hb5, hq4, hb6, hq5, hb7, hq7, ty37, ty3, f2, reduceLT, reduceEqDiff, reduceAdd, reduceLeDiff, reduceMul, Int.reduceEq]
                refine callP (w_bits_Set_Count kr13) ?_
                simp only [SB, hb2, hq1, hb3, hq2, hb4, hq3, hb5, hq4, hb6, hq5, hb7, hq7, ty37, ty3, f2, reduceLT, reduceEqDiff, reduceAdd, reduceLeDiff, reduceMul, Int.reduceEq]
                refine callP (w_graph_Graph_Edges kr14) ?_
                simp only [SB, hb2, hq1, hb3, hq2, hb4, hq3, hb5, hq4, hb6, hq5, hb7, hq7, ty37, ty3, len_sim ty34 rfl, f2, reduceLT, reduceEqDiff, reduceAdd, reduceLeDiff, reduceMul, Int.reduceEq]
                refine callP (w_graph_Graph_Len kr15) ?_
                simp only [SB, hb2, hq1, hb3, hq2, hb4, hq3, hb5, hq4, hb6, hq5, hb7, hq7, ty37, ty3, len_sim ty34 rfl, f2, reduceLT, reduceEqDiff, reduceAdd, reduceLeDiff, reduceMul, Int.reduceEq]
                refine hold_intro ?_
                exact ⟨by simp only [SB, f2, reduceLT, reduceEqDiff, reduceAdd, reduceLeDiff, reduceMul, Int.reduceEq], by simp only [SB, f2, reduceLT, reduceEqDiff, reduceAdd, reduceLeDiff, reduceMul, Int.reduceEq], by simp only [SB, f2, hb2, hq1, hb3, hq2, hb4, hq3, hb5, hq4, hb6, hq5, hb7, hq7, ty37, ty3, len_sim ty34 rfl, reduceLT, reduceEqDiff, reduceAdd, reduceLeDiff, reduceMul, Int.reduceEq]⟩
            ·
              have hx8 : b4 = false := by simp only [SB, hb2, hq1, hb3, hq2, hb4, hq3, hb5, hq4, hb6]
              rw [if_neg (by rw [hx8]; decide)] at kb5
              have hq8 := (Option.some.inj kb5).symm
              have hx9 : b5 = false := by simp only [SB, hb2, hq1, hb3, hq2, hb4, hq3, hb5, hq4, hb6, hq8]
              rw [if_neg (by rw [hx9]; decide)] at kb6
              have hq9 := (Option.some.inj kb6).symm
              simp only [SB, hb2, hq1, hb3, hq2, hb4, hq3, hb5, hq4, hb6, hq8, hq9, f2, reduceLT, reduceEqDiff, reduceAdd, reduceLeDiff, reduceMul, Int.reduceEq]
              refine callP (w_graph_Graph_Succ kr6) ?_
              simp only [SB, hb2, hq1, hb3, hq2, hb4, hq3, hb5, hq4, hb6, hq8, hq9, ty37, ty3, f2, reduceLT, reduceEqDiff, reduceAdd, reduceLeDiff, reduceMul, Int.reduceEq]
              refine callLM (w_dyehouseref12_Ints kr7) (.cons (.cl (cl_map cl_eInt _)) (.cons (((Own.mk (D := [29]) (rows := ([2, 1] : List Int).map eInt) (id := ⟨29, H7.next (29)⟩) (by simp only [SB, reduceEqDiff]) (by simp only [SB]) (by simp only [SB, f2, reduceLT, reduceEqDiff, reduceAdd, reduceLeDiff, reduceMul, Int.reduceEq] <;> rfl))).fz (cls cl_eInt _)) (.nil))) (flat_bool _) ?_
              simp only [SB, hb2, hq1, hb3, hq2, hb4, hq3, hb5, hq4, hb6, hq8, hq9, ty37, ty3, f2, reduceLT, reduceEqDiff, reduceAdd, reduceLeDiff, reduceMul, Int.reduceEq]
              refine callP (w_graph_Graph_Pred kr8) ?_
              simp only [SB, hb2, hq1, hb3, hq2, hb4, hq3, hb5, hq4, hb6, hq8, hq9, ty37, ty3, f2, reduceLT, reduceEqDiff, reduceAdd, reduceLeDiff, reduceMul, Int.reduceEq]
              refine callLM (w_dyehouseref12_Ints kr9) (.cons (.cl (cl_map cl_eInt _)) (.cons (((Own.mk (D := [34]) (rows := ([1, 2, 4] : List Int).map eInt) (id := ⟨34, H7.next (34)⟩) (by simp only [SB, reduceEqDiff]) (by simp only [SB]) (by simp only [SB, f2, reduceLT, reduceEqDiff, reduceAdd, reduceLeDiff, reduceMul, Int.reduceEq] <;> rfl))).fz (cls cl_eInt _)) (.nil))) (flat_bool _) ?_
              simp only [SB, hb2, hq1, hb3, hq2, hb4, hq3, hb5, hq4, hb6, hq8, hq9, ty37, ty3, f2, reduceLT, reduceEqDiff, reduceAdd, reduceLeDiff, reduceMul, Int.reduceEq]
              refine callP (w_graph_Graph_Order kr10) ?_
              simp only [SB, hb2, hq1, hb3, hq2, hb4, hq3, hb5, hq4, hb6, hq8, hq9, ty37, ty3, f2, reduceLT, reduceEqDiff, reduceAdd, reduceLeDiff, reduceMul, Int.reduceEq]
              refine callLM (w_dyehouseref12_Ints kr11) (.cons (.cl (cl_map cl_eInt _)) (.cons (((Own.mk (D := [40]) (rows := ([0, 1, 2, 3] : List Int).map eInt) (id := ⟨40, H7.next (40)⟩) (by simp only [SB, reduceEqDiff]) (by simp only [SB]) (by simp only [SB, f2, reduceLT, reduceEqDiff, reduceAdd, reduceLeDiff, reduceMul, Int.reduceEq] <;> rfl))).fz (cls cl_eInt _)) (.nil))) (flat_bool _) ?_
              simp only [SB, hb2, hq1, hb3, hq2, hb4, hq3, hb5, hq4, hb6, hq8, hq9, ty37, ty3, f2, reduceLT, reduceEqDiff, reduceAdd, reduceLeDiff, reduceMul, Int.reduceEq]
              refine callP (w_graph_Graph_Reached kr12) ?_
              simp only [SB, hb2, hq1, hb3, hq2, hb4, hq3, hb5, hq4, hb6, hq8, hq9, ty37, ty3, f2, reduceLT, reduceEqDiff, reduceAdd, reduceLeDiff, reduceMul, Int.reduceEq]
              refine callP (w_bits_Set_Count kr13) ?_
              simp only [SB, hb2, hq1, hb3, hq2, hb4, hq3, hb5, hq4, hb6, hq8, hq9, ty37, ty3, f2, reduceLT, reduceEqDiff, reduceAdd, reduceLeDiff, reduceMul, Int.reduceEq]
              refine callP (w_graph_Graph_Edges kr14) ?_
              simp only [SB, hb2, hq1, hb3, hq2, hb4, hq3, hb5, hq4, hb6, hq8, hq9, ty37, ty3, len_sim ty34 rfl, f2, reduceLT, reduceEqDiff, reduceAdd, reduceLeDiff, reduceMul, Int.reduceEq]
              refine hold_intro ?_
              exact ⟨by simp only [SB, f2, reduceLT, reduceEqDiff, reduceAdd, reduceLeDiff, reduceMul, Int.reduceEq], by simp only [SB, f2, reduceLT, reduceEqDiff, reduceAdd, reduceLeDiff, reduceMul, Int.reduceEq], by simp only [SB, f2, hb2, hq1, hb3, hq2, hb4, hq3, hb5, hq4, hb6, hq8, hq9, ty37, ty3, len_sim ty34 rfl, reduceLT, reduceEqDiff, reduceAdd, reduceLeDiff, reduceMul, Int.reduceEq]⟩
          ·
            have hx10 : b3 = false := by simp only [SB, hb2, hq1, hb3, hq2, hb4, hq3, hb5]
            rw [if_neg (by rw [hx10]; decide)] at kb4
            have hq10 := (Option.some.inj kb4).symm
            have hx11 : b4 = false := by simp only [SB, hb2, hq1, hb3, hq2, hb4, hq3, hb5, hq10]
            rw [if_neg (by rw [hx11]; decide)] at kb5
            have hq11 := (Option.some.inj kb5).symm
            have hx12 : b5 = false := by simp only [SB, hb2, hq1, hb3, hq2, hb4, hq3, hb5, hq10, hq11]
            rw [if_neg (by rw [hx12]; decide)] at kb6
            have hq12 := (Option.some.inj kb6).symm
            simp only [SB, hb2, hq1, hb3, hq2, hb4, hq3, hb5, hq10, hq11, hq12, f2, reduceLT, reduceEqDiff, reduceAdd, reduceLeDiff, reduceMul, Int.reduceEq]
            refine callP (w_graph_Graph_Succ kr6) ?_
            simp only [SB, hb2, hq1, hb3, hq2, hb4, hq3, hb5, hq10, hq11, hq12, ty37, ty3, f2, reduceLT, reduceEqDiff, reduceAdd, reduceLeDiff, reduceMul, Int.reduceEq]
            refine callLM (w_dyehouseref12_Ints kr7) (.cons (.cl (cl_map cl_eInt _)) (.cons (((Own.mk (D := [29]) (rows := ([2, 1] : List Int).map eInt) (id := ⟨29, H7.next (29)⟩) (by simp only [SB, reduceEqDiff]) (by simp only [SB]) (by simp only [SB, f2, reduceLT, reduceEqDiff, reduceAdd, reduceLeDiff, reduceMul, Int.reduceEq] <;> rfl))).fz (cls cl_eInt _)) (.nil))) (flat_bool _) ?_
            simp only [SB, hb2, hq1, hb3, hq2, hb4, hq3, hb5, hq10, hq11, hq12, ty37, ty3, f2, reduceLT, reduceEqDiff, reduceAdd, reduceLeDiff, reduceMul, Int.reduceEq]
            refine callP (w_graph_Graph_Pred kr8) ?_
            simp only [SB, hb2, hq1, hb3, hq2, hb4, hq3, hb5, hq10, hq11, hq12, ty37, ty3, f2, reduceLT, reduceEqDiff, reduceAdd, reduceLeDiff, reduceMul, Int.reduceEq]
            refine callLM (w_dyehouseref12_Ints kr9) (.cons (.cl (cl_map cl_eInt _)) (.cons (((Own.mk (D := [34]) (rows := ([1, 2, 4] : List Int).map eInt) (id := ⟨34, H7.next (34)⟩) (by simp only [SB, reduceEqDiff]) (by simp only [SB]) (by simp only [SB, f2, reduceLT, reduceEqDiff, reduceAdd, reduceLeDiff, reduceMul, Int.reduceEq] <;> rfl))).fz (cls cl_eInt _)) (.nil))) (flat_bool _) ?_
            simp only [SB, hb2, hq1, hb3, hq2, hb4, hq3, hb5, hq10, hq11, hq12, ty37, ty3, f2, reduceLT, reduceEqDiff, reduceAdd, reduceLeDiff, reduceMul, Int.reduceEq]
            refine callP (w_graph_Graph_Order kr10) ?_
            simp only [SB, hb2, hq1, hb3, hq2, hb4, hq3, hb5, hq10, hq11, hq12, ty37, ty3, f2, reduceLT, reduceEqDiff, reduceAdd, reduceLeDiff, reduceMul, Int.reduceEq]
            refine callLM (w_dyehouseref12_Ints kr11) (.cons (.cl (cl_map cl_eInt _)) (.cons (((Own.mk (D := [40]) (rows := ([0, 1, 2, 3] : List Int).map eInt) (id := ⟨40, H7.next (40)⟩) (by simp only [SB, reduceEqDiff]) (by simp only [SB]) (by simp only [SB, f2, reduceLT, reduceEqDiff, reduceAdd, reduceLeDiff, reduceMul, Int.reduceEq] <;> rfl))).fz (cls cl_eInt _)) (.nil))) (flat_bool _) ?_
            simp only [SB, hb2, hq1, hb3, hq2, hb4, hq3, hb5, hq10, hq11, hq12, ty37, ty3, f2, reduceLT, reduceEqDiff, reduceAdd, reduceLeDiff, reduceMul, Int.reduceEq]
            refine callP (w_graph_Graph_Reached kr12) ?_
            simp only [SB, hb2, hq1, hb3, hq2, hb4, hq3, hb5, hq10, hq11, hq12, ty37, ty3, f2, reduceLT, reduceEqDiff, reduceAdd, reduceLeDiff, reduceMul, Int.reduceEq]
            refine callP (w_bits_Set_Count kr13) ?_
            simp only [SB, hb2, hq1, hb3, hq2, hb4, hq3, hb5, hq10, hq11, hq12, ty37, ty3, f2, reduceLT, reduceEqDiff, reduceAdd, reduceLeDiff, reduceMul, Int.reduceEq]
            refine hold_intro ?_
            exact ⟨by simp only [SB, f2, reduceLT, reduceEqDiff, reduceAdd, reduceLeDiff, reduceMul, Int.reduceEq], by simp only [SB, f2, reduceLT, reduceEqDiff, reduceAdd, reduceLeDiff, reduceMul, Int.reduceEq], by simp only [SB, f2, hb2, hq1, hb3, hq2, hb4, hq3, hb5, hq10, hq11, hq12, ty37, ty3, reduceLT, reduceEqDiff, reduceAdd, reduceLeDiff, reduceMul, Int.reduceEq]⟩
        ·
          have hx13 : b2 = false := by simp only [SB, hb2, hq1, hb3, hq2, hb4]
          rw [if_neg (by rw [hx13]; decide)] at kb3
          have hq13 := (Option.some.inj kb3).symm
          have hx14 : b3 = false := by simp only [SB, hb2, hq1, hb3, hq2, hb4, hq13]
          rw [if_neg (by rw [hx14]; decide)] at kb4
          have hq14 := (Option.some.inj kb4).symm
          have hx15 : b4 = false := by simp only [SB, hb2, hq1, hb3, hq2, hb4, hq13, hq14]
          rw [if_neg (by rw [hx15]; decide)] at kb5
          have hq15 := (Option.some.inj kb5).symm
          have hx16 : b5 = false := by simp only [SB, hb2, hq1, hb3, hq2, hb4, hq13, hq14, hq15]
          rw [if_neg (by rw [hx16]; decide)] at kb6
          have hq16 := (Option.some.inj kb6).symm
          simp only [SB, hb2, hq1, hb3, hq2, hb4, hq13, hq14, hq15, hq16, f2, reduceLT, reduceEqDiff, reduceAdd, reduceLeDiff, reduceMul, Int.reduceEq]
          refine callP (w_graph_Graph_Succ kr6) ?_
          simp only [SB, hb2, hq1, hb3, hq2, hb4, hq13, hq14, hq15, hq16, ty37, ty3, f2, reduceLT, reduceEqDiff, reduceAdd, reduceLeDiff, reduceMul, Int.reduceEq]
          refine callLM (w_dyehouseref12_Ints kr7) (.cons (.cl (cl_map cl_eInt _)) (.cons (((Own.mk (D := [29]) (rows := ([2, 1] : List Int).map eInt) (id := ⟨29, H7.next (29)⟩) (by simp only [SB, reduceEqDiff]) (by simp only [SB]) (by simp only [SB, f2, reduceLT, reduceEqDiff, reduceAdd, reduceLeDiff, reduceMul, Int.reduceEq] <;> rfl))).fz (cls cl_eInt _)) (.nil))) (flat_bool _) ?_
          simp only [SB, hb2, hq1, hb3, hq2, hb4, hq13, hq14, hq15, hq16, ty37, ty3, f2, reduceLT, reduceEqDiff, reduceAdd, reduceLeDiff, reduceMul, Int.reduceEq]
          refine callP (w_graph_Graph_Pred kr8) ?_
          simp only [SB, hb2, hq1, hb3, hq2, hb4, hq13, hq14, hq15, hq16, ty37, ty3, f2, reduceLT, reduceEqDiff, reduceAdd, reduceLeDiff, reduceMul, Int.reduceEq]
          refine callLM (w_dyehouseref12_Ints kr9) (.cons (.cl (cl_map cl_eInt _)) (.cons (((Own.mk (D := [34]) (rows := ([1, 2, 4] : List Int).map eInt) (id := ⟨34, H7.next (34)⟩) (by simp only [SB, reduceEqDiff]) (by simp only [SB]) (by simp only [SB, f2, reduceLT, reduceEqDiff, reduceAdd, reduceLeDiff, reduceMul, Int.reduceEq] <;> rfl))).fz (cls cl_eInt _)) (.nil))) (flat_bool _) ?_
          simp only [SB, hb2, hq1, hb3, hq2, hb4, hq13, hq14, hq15, hq16, ty37, ty3, f2, reduceLT, reduceEqDiff, reduceAdd, reduceLeDiff, reduceMul, Int.reduceEq]
          refine callP (w_graph_Graph_Order kr10) ?_
          simp only [SB, hb2, hq1, hb3, hq2, hb4, hq13, hq14, hq15, hq16, ty37, ty3, f2, reduceLT, reduceEqDiff, reduceAdd, reduceLeDiff, reduceMul, Int.reduceEq]
          refine callLM (w_dyehouseref12_Ints kr11) (.cons (.cl (cl_map cl_eInt _)) (.cons (((Own.mk (D := [40]) (rows := ([0, 1, 2, 3] : List Int).map eInt) (id := ⟨40, H7.next (40)⟩) (by simp only [SB, reduceEqDiff]) (by simp only [SB]) (by simp only [SB, f2, reduceLT, reduceEqDiff, reduceAdd, reduceLeDiff, reduceMul, Int.reduceEq] <;> rfl))).fz (cls cl_eInt _)) (.nil))) (flat_bool _) ?_
          simp only [SB, hb2, hq1, hb3, hq2, hb4, hq13, hq14, hq15, hq16, ty37, ty3, f2, reduceLT, reduceEqDiff, reduceAdd, reduceLeDiff, reduceMul, Int.reduceEq]
          refine hold_intro ?_
          exact ⟨by simp only [SB, f2, reduceLT, reduceEqDiff, reduceAdd, reduceLeDiff, reduceMul, Int.reduceEq], by simp only [SB, f2, reduceLT, reduceEqDiff, reduceAdd, reduceLeDiff, reduceMul, Int.reduceEq], by simp only [SB, f2, hb2, hq1, hb3, hq2, hb4, hq13, hq14, hq15, hq16, ty37, ty3, reduceLT, reduceEqDiff, reduceAdd, reduceLeDiff, reduceMul, Int.reduceEq]⟩
      ·
        have hx17 : b1 = false := by simp only [SB, hb2, hq1, hb3]
        rw [if_neg (by rw [hx17]; decide)] at kb2
        have hq17 := (Option.some.inj kb2).symm
        have hx18 : b2 = false := by simp only [SB, hb2, hq1, hb3, hq17]
        rw [if_neg (by rw [hx18]; decide)] at kb3
        have hq18 := (Option.some.inj kb3).symm
        have hx19 : b3 = false := by simp only [SB, hb2, hq1, hb3, hq17, hq18]
        rw [if_neg (by rw [hx19]; decide)] at kb4
        have hq19 := (Option.some.inj kb4).symm
        have hx20 : b4 = false := by simp only [SB, hb2, hq1, hb3, hq17, hq18, hq19]
        rw [if_neg (by rw [hx20]; decide)] at kb5
        have hq20 := (Option.some.inj kb5).symm
        have hx21 : b5 = false := by simp only [SB, hb2, hq1, hb3, hq17, hq18, hq19, hq20]
        rw [if_neg (by rw [hx21]; decide)] at kb6
        have hq21 := (Option.some.inj kb6).symm
        simp only [SB, hb2, hq1, hb3, hq17, hq18, hq19, hq20, hq21, f2, reduceLT, reduceEqDiff, reduceAdd, reduceLeDiff, reduceMul, Int.reduceEq]
        refine callP (w_graph_Graph_Succ kr6) ?_
        simp only [SB, hb2, hq1, hb3, hq17, hq18, hq19, hq20, hq21, ty37, ty3, f2, reduceLT, reduceEqDiff, reduceAdd, reduceLeDiff, reduceMul, Int.reduceEq]
        refine callLM (w_dyehouseref12_Ints kr7) (.cons (.cl (cl_map cl_eInt _)) (.cons (((Own.mk (D := [29]) (rows := ([2, 1] : List Int).map eInt) (id := ⟨29, H7.next (29)⟩) (by simp only [SB, reduceEqDiff]) (by simp only [SB]) (by simp only [SB, f2, reduceLT, reduceEqDiff, reduceAdd, reduceLeDiff, reduceMul, Int.reduceEq] <;> rfl))).fz (cls cl_eInt _)) (.nil))) (flat_bool _) ?_
        simp only [SB, hb2, hq1, hb3, hq17, hq18, hq19, hq20, hq21, ty37, ty3, f2, reduceLT, reduceEqDiff, reduceAdd, reduceLeDiff, reduceMul, Int.reduceEq]
        refine callP (w_graph_Graph_Pred kr8) ?_
        simp only [SB, hb2, hq1, hb3, hq17, hq18, hq19, hq20, hq21, ty37, ty3, f2, reduceLT, reduceEqDiff, reduceAdd, reduceLeDiff, reduceMul, Int.reduceEq]
        refine callLM (w_dyehouseref12_Ints kr9) (.cons (.cl (cl_map cl_eInt _)) (.cons (((Own.mk (D := [34]) (rows := ([1, 2, 4] : List Int).map eInt) (id := ⟨34, H7.next (34)⟩) (by simp only [SB, reduceEqDiff]) (by simp only [SB]) (by simp only [SB, f2, reduceLT, reduceEqDiff, reduceAdd, reduceLeDiff, reduceMul, Int.reduceEq] <;> rfl))).fz (cls cl_eInt _)) (.nil))) (flat_bool _) ?_
        simp only [SB, hb2, hq1, hb3, hq17, hq18, hq19, hq20, hq21, ty37, ty3, f2, reduceLT, reduceEqDiff, reduceAdd, reduceLeDiff, reduceMul, Int.reduceEq]
        refine hold_intro ?_
        exact ⟨by simp only [SB, f2, reduceLT, reduceEqDiff, reduceAdd, reduceLeDiff, reduceMul, Int.reduceEq], by simp only [SB, f2, reduceLT, reduceEqDiff, reduceAdd, reduceLeDiff, reduceMul, Int.reduceEq], by simp only [SB, f2, hb2, hq1, hb3, hq17, hq18, hq19, hq20, hq21, ty37, ty3, reduceLT, reduceEqDiff, reduceAdd, reduceLeDiff, reduceMul, Int.reduceEq]⟩
    ·
      have hx22 := hb2
      rw [if_neg (by rw [hx22]; decide)] at kb1
      have hq22 := (Option.some.inj kb1).symm
      have hx23 : b1 = false := by simp only [SB, hb2, hq22]
      rw [if_neg (by rw [hx23]; decide)] at kb2
      have hq23 := (Option.some.inj kb2).symm
      have hx24 : b2 = false := by simp only [SB, hb2, hq22, hq23]
      rw [if_neg (by rw [hx24]; decide)] at kb3
      have hq24 := (Option.some.inj kb3).symm
      have hx25 : b3 = false := by simp only [SB, hb2, hq22, hq23, hq24]
      rw [if_neg (by rw [hx25]; decide)] at kb4
      have hq25 := (Option.some.inj kb4).symm
      have hx26 : b4 = false := by simp only [SB, hb2, hq22, hq23, hq24, hq25]
      rw [if_neg (by rw [hx26]; decide)] at kb5
      have hq26 := (Option.some.inj kb5).symm
      have hx27 : b5 = false := by simp only [SB, hb2, hq22, hq23, hq24, hq25, hq26]
      rw [if_neg (by rw [hx27]; decide)] at kb6
      have hq27 := (Option.some.inj kb6).symm
      simp only [SB, hb2, hq22, hq23, hq24, hq25, hq26, hq27, f2, reduceLT, reduceEqDiff, reduceAdd, reduceLeDiff, reduceMul, Int.reduceEq]
      refine callP (w_graph_Graph_Succ kr6) ?_
      simp only [SB, hb2, hq22, hq23, hq24, hq25, hq26, hq27, ty37, ty3, f2, reduceLT, reduceEqDiff, reduceAdd, reduceLeDiff, reduceMul, Int.reduceEq]
      refine callLM (w_dyehouseref12_Ints kr7) (.cons (.cl (cl_map cl_eInt _)) (.cons (((Own.mk (D := [29]) (rows := ([2, 1] : List Int).map eInt) (id := ⟨29, H7.next (29)⟩) (by simp only [SB, reduceEqDiff]) (by simp only [SB]) (by simp only [SB, f2, reduceLT, reduceEqDiff, reduceAdd, reduceLeDiff, reduceMul, Int.reduceEq] <;> rfl))).fz (cls cl_eInt _)) (.nil))) (flat_bool _) ?_
      simp only [SB, hb2, hq22, hq23, hq24, hq25, hq26, hq27, ty37, ty3, f2, reduceLT, reduceEqDiff, reduceAdd, reduceLeDiff, reduceMul, Int.reduceEq]
      refine hold_intro ?_
      exact ⟨by simp only [SB, f2, reduceLT, reduceEqDiff, reduceAdd, reduceLeDiff, reduceMul, Int.reduceEq], by simp only [SB, f2, reduceLT, reduceEqDiff, reduceAdd, reduceLeDiff, reduceMul, Int.reduceEq], by simp only [SB, f2, hb2, hq22, hq23, hq24, hq25, hq26, hq27, ty37, ty3, reduceLT, reduceEqDiff, reduceAdd, reduceLeDiff, reduceMul, Int.reduceEq]⟩
  · rintro a3 H8 ⟨kh8, kp3, e4⟩
    have f3 := And.intro f2 (And.intro (KpF kp3) (And.intro e4 ((KHF kh8))))
    refine U_ret ?_
    replace h := Option.some.inj h
    subst h
    refine ⟨.bool b6, by simp only [ires, iress, Try.results14, SB, List.toList_toArray, f3, reduceLT, reduceEqDiff, reduceAdd, reduceLeDiff, reduceMul, Int.reduceEq], ?_⟩
    exact .cl (closed_bool _)

theorem w_dyehouseref12_Find {fuel : Nat} {f_1 : Fnc} {label_1 : ByteArray} {r0_ : Int} (h : p_dyehouseref12_Find fuel f_1 label_1 = some r0_) : Pure1 Try.prog 53 [.agg (eFnc f_1), .str label_1] (.int .i64 r0_) := by
  refine Pure1_fz (all_cl (cl_agg (cl_eFnc _)) (all_cl (closed_str _) all_cl0)) ?_
  refine U_call 0 Try.func53 rfl (by kernel_rfl) (by simp [Try.ntmps53]) ?_
  rw [Try.ntmps53]
  refine U_at (fun a' H' => a'.n = 22 ∧ a'.b = 0 ∧ a'.get 0 = .agg (eFnc f_1) ∧ a'.get 1 = .str label_1) ⟨rfl, rfl, rfl, rfl⟩ ?_
  rintro a0 H0 ⟨hn0, hn1, e1, e2⟩
  unfold p_dyehouseref12_Find at h
  have f1 := And.intro hn0 (And.intro hn1 (And.intro e1 (e2)))
  refine U_seq ?_
  refine U_reg ?_
  simp only [SB, ty26, sFnc, f1, reduceLT, reduceEqDiff, reduceAdd, reduceLeDiff, reduceMul, Int.reduceEq]
  refine hold_intro ?_
  refine U_seq ?_
  refine U_seq ?_
  refine U_reg ?_
  simp only [SB, f1, reduceLT, reduceEqDiff, reduceAdd, reduceLeDiff, reduceMul, Int.reduceEq]
  refine hold_intro ?_
  refine U_at (fun a' H' => Kp [2, 4, 5] 6 a' a0 ∧ KH [2] H' H0 ∧ a'.get 2 = .pb ⟨2, H0.next (2)⟩ 0 0 ∧ a'.get 5 = .int .i64 0 ∧ H'.get ⟨2, H0.next (2)⟩ = some ⟨5, [eFnc f_1]⟩) ⟨by simp only [SB, f1, reduceLT, reduceEqDiff, reduceAdd, reduceLeDiff, reduceMul, Int.reduceEq], by simp only [SB, f1, reduceLT, reduceEqDiff, reduceAdd, reduceLeDiff, reduceMul, Int.reduceEq], by simp only [SB, f1, reduceLT, reduceEqDiff, reduceAdd, reduceLeDiff, reduceMul, Int.reduceEq], by simp only [SB, f1, reduceLT, reduceEqDiff, reduceAdd, reduceLeDiff, reduceMul, Int.reduceEq], by simp only [SB, f1, reduceLT, reduceEqDiff, reduceAdd, reduceLeDiff, reduceMul, Int.reduceEq] <;> rfl⟩ ?_
  rintro a1 H1 ⟨kp1, kh1, e3, e4, e5⟩
  have f2 := And.intro f1 (And.intro (KpF kp1) (And.intro (KHF kh1) (And.intro e3 (And.intro e4 (e5)))))
  obtain ⟨u1, he1, h⟩ := bndE h
  obtain ⟨hhi1, hlo1, he1⟩ := toE_facts he1
  refine U_cut (fun a' H' => u1 = .n () ∧ Kp [4, 5] 6 a' a1 ∧ KH [] H' H1) (U_block (U_loop (fun y a' H' => match y with | i1 => forE ((f_1.blocks.length : Int) - i1).toNat i1 (fun i _ => p_dyehouseref12_Find_b1 fuel f_1 label_1 i) () = some u1 ∧ 0 ≤ i1 ∧ Kp [4, 5] 6 a' a1 ∧ KH [] H' H1 ∧ a'.get 5 = .int .i64 i1 : Int → Fr → Heap → Prop) (fun y : Int => ((f_1.blocks.length : Int) - y).toNat) 0 ?_ ?_)) ?_
  · exact ⟨he1, Int.le_refl _, by simp only [SB, f2, reduceLT, reduceEqDiff, reduceAdd, reduceLeDiff, reduceMul, Int.reduceEq], by simp only [SB, f2, reduceLT, reduceEqDiff, reduceAdd, reduceLeDiff, reduceMul, Int.reduceEq], by simp only [SB, f2, reduceLT, reduceEqDiff, reduceAdd, reduceLeDiff, reduceMul, Int.reduceEq]⟩
  ·
    rintro i1 a2 H2 ⟨hf2, hl1, kp2, kh2, e6⟩
    by_cases hlt1 : i1 < (f_1.blocks.length : Int)
    ·
      obtain ⟨u2, hr1, hl2⟩ := forE_step hf2 hlt1
      replace hr1 : p_dyehouseref12_Find_b1 fuel f_1 label_1 i1 = some u2 := hr1
      unfold p_dyehouseref12_Find_b1 at hr1
      have hw1 := wrap_next hlt1 hhi1 hlo1 hl1
      have hlt1_t : decide (i1 < (f_1.blocks.length : Int)) = true := decide_eq_true hlt1
      have f3 := And.intro f2 (And.intro (KpF kp2) (And.intro (KHF kh2) (And.intro e6 (And.intro hw1 (hlt1_t)))))
      refine U_seq (U_seq ?_)
      refine U_reg ?_
      simp only [SB, ty26, ty24, sFnc, len_sim ty24 rfl, f3, reduceLT, reduceEqDiff, reduceAdd, reduceLeDiff, reduceMul, Int.reduceEq]
      refine hold_intro ?_
      refine U_condT (by simp only [SB, f3, ty26, ty24, sFnc, len_sim ty24 rfl, reduceLT, reduceEqDiff, reduceAdd, reduceLeDiff, reduceMul, Int.reduceEq]) (U_skip ?_)
      refine U_seq ?_
      refine U_block ?_
      refine U_seq ?_
      obtain ⟨x1, kx1, hr1⟩ := bndO hr1
      refine U_reg ?_
      simp only [SB, ty26, ty24, sFnc, ty63, iia_sim (f := eBl) ty24 rfl ty63 kx1 rfl, row_sim (f := eBl) kx1, sBl, ty9, f3, reduceLT, reduceEqDiff, reduceAdd, reduceLeDiff, reduceMul, Int.reduceEq]
      refine hold_intro ?_
      rcases Bool.eq_false_or_eq_true (decide (x1.label = label_1)) with hb1 | hb1
      ·
        rw [if_pos hb1] at hr1
        refine U_condT (by simp only [SB, f3, hb1, ty26, ty24, sFnc, ty63, iia_sim (f := eBl) ty24 rfl ty63 kx1 rfl, row_sim (f := eBl) kx1, sBl, ty9, reduceLT, reduceEqDiff, reduceAdd, reduceLeDiff, reduceMul, Int.reduceEq]) ?_
        refine U_seq ?_
        refine U_reg ?_
        simp only [SB, f3, hb1, reduceLT, reduceEqDiff, reduceAdd, reduceLeDiff, reduceMul, Int.reduceEq]
        refine hold_intro ?_
        refine U_ret ?_
        replace hr1 := Option.some.inj hr1
        subst hr1
        replace hl2 : u1 = .r _ := hl2
        subst hl2
        replace h := outE_r h
        replace h := Option.some.inj h
        subst h
        refine ⟨.int .i64 i1, by simp only [ires, iress, Try.results53, SB, List.toList_toArray, f3, hb1, reduceLT, reduceEqDiff, reduceAdd, reduceLeDiff, reduceMul, Int.reduceEq], ?_⟩
        exact .cl (closed_int _ _)
      ·
        rw [if_neg (by rw [hb1]; decide)] at hr1
        refine U_condF (by simp only [SB, f3, hb1, ty26, ty24, sFnc, ty63, iia_sim (f := eBl) ty24 rfl ty63 kx1 rfl, row_sim (f := eBl) kx1, sBl, ty9, reduceLT, reduceEqDiff, reduceAdd, reduceLeDiff, reduceMul, Int.reduceEq]) ?_
        refine U_skip ?_
        refine U_reg ?_
        simp only [SB, f3, hb1, reduceLT, reduceEqDiff, reduceAdd, reduceLeDiff, reduceMul, Int.reduceEq]
        refine hold_intro ?_
        replace hr1 := Option.some.inj hr1
        subst hr1
        refine ⟨i1 + 1, ?_, hl2, Int.le_add_one hl1, by simp only [SB, f3, hb1, reduceLT, reduceEqDiff, reduceAdd, reduceLeDiff, reduceMul, Int.reduceEq], by simp only [SB, f3, hb1, reduceLT, reduceEqDiff, reduceAdd, reduceLeDiff, reduceMul, Int.reduceEq], by simp only [SB, f3, hb1, reduceLT, reduceEqDiff, reduceAdd, reduceLeDiff, reduceMul, Int.reduceEq]⟩
        show ((f_1.blocks.length : Int) - (i1 + 1)).toNat < ((f_1.blocks.length : Int) - i1).toNat; omega
    ·
      have hlt1_e := forE_end hf2 hlt1
      have hlt1_t : decide (i1 < (f_1.blocks.length : Int)) = false := decide_eq_false hlt1
      have f4 := And.intro f2 (And.intro (KpF kp2) (And.intro (KHF kh2) (And.intro e6 (hlt1_t))))
      refine U_seq (U_seq ?_)
      refine U_reg ?_
      simp only [SB, ty26, ty24, sFnc, len_sim ty24 rfl, f4, reduceLT, reduceEqDiff, reduceAdd, reduceLeDiff, reduceMul, Int.reduceEq]
      refine hold_intro ?_
      refine U_condF (by simp only [SB, f4, ty26, ty24, sFnc, len_sim ty24 rfl, reduceLT, reduceEqDiff, reduceAdd, reduceLeDiff, reduceMul, Int.reduceEq]) (U_exit rfl ?_)
      exact ⟨hlt1_e, by simp only [SB, f4, reduceLT, reduceEqDiff, reduceAdd, reduceLeDiff, reduceMul, Int.reduceEq], by simp only [SB, f4, reduceLT, reduceEqDiff, reduceAdd, reduceLeDiff, reduceMul, Int.reduceEq]⟩
  ·
    rintro a3 H3 ⟨rfl, kp3, kh3⟩
    replace h := outE_n h
    have f5 := And.intro f2 (And.intro (KpF kp3) ((KHF kh3)))
    refine U_seq ?_
    refine U_reg ?_
    simp only [SB, f5, reduceLT, reduceEqDiff, reduceAdd, reduceLeDiff, reduceMul, Int.reduceEq]
    refine hold_intro ?_
    refine U_ret ?_
    replace h := Option.some.inj h
    subst h
    refine ⟨.int .i64 (-1), by simp only [ires, iress, Try.results53, SB, List.toList_toArray, f5, reduceLT, reduceEqDiff, reduceAdd, reduceLeDiff, reduceMul, Int.reduceEq], ?_⟩
    exact .cl (closed_int _ _)

theorem w_dyehouseref12_In {fuel : Nat} {l_1 : List Int} {nv_1 : Int} {r0_ : Bool} (h : p_dyehouseref12_In fuel l_1 nv_1 = some r0_) : Pure1 Try.prog 23 [.sim (l_1.map eInt) false, .int .i64 nv_1] (.bool r0_) := by
  refine Pure1_fz (all_cl (cl_map cl_eInt _) (all_cl (closed_int _ _) all_cl0)) ?_
  refine U_call 0 Try.func23 rfl (by kernel_rfl) (by simp [Try.ntmps23]) ?_
  rw [Try.ntmps23]
  refine U_at (fun a' H' => a'.n = 18 ∧ a'.b = 0 ∧ a'.get 0 = .sim (l_1.map eInt) false ∧ a'.get 1 = .int .i64 nv_1) ⟨rfl, rfl, rfl, rfl⟩ ?_
  rintro a0 H0 ⟨hn0, hn1, e1, e2⟩
  unfold p_dyehouseref12_In at h
  have f1 := And.intro hn0 (And.intro hn1 (And.intro e1 (e2)))
  refine U_seq ?_
  refine U_reg ?_
  simp only [SB, f1, reduceLT, reduceEqDiff, reduceAdd, reduceLeDiff, reduceMul, Int.reduceEq]
  refine hold_intro ?_
  refine U_seq ?_
  refine U_seq ?_
  refine U_reg ?_
  simp only [SB, f1, reduceLT, reduceEqDiff, reduceAdd, reduceLeDiff, reduceMul, Int.reduceEq]
  refine hold_intro ?_
  refine U_at (fun a' H' => Kp [4, 5] 6 a' a0 ∧ H0 = H' ∧ a'.get 5 = .int .i64 0) ⟨by simp only [SB, f1, reduceLT, reduceEqDiff, reduceAdd, reduceLeDiff, reduceMul, Int.reduceEq], rfl, by simp only [SB, f1, reduceLT, reduceEqDiff, reduceAdd, reduceLeDiff, reduceMul, Int.reduceEq]⟩ ?_
  rintro a1 H1 ⟨kp1, rfl, e3⟩
  have f2 := And.intro f1 (And.intro (KpF kp1) (e3))
  obtain ⟨u1, he1, h⟩ := bndE h
  obtain ⟨hhi1, hlo1, he1⟩ := toE_facts he1
  refine U_cut (fun a' H' => u1 = .n () ∧ Kp [4, 5] 6 a' a1 ∧ KH [] H' H0) (U_block (U_loop (fun y a' H' => match y with | i1 => forE ((l_1.length : Int) - i1).toNat i1 (fun i _ => p_dyehouseref12_In_b1 fuel l_1 nv_1 i) () = some u1 ∧ 0 ≤ i1 ∧ Kp [4, 5] 6 a' a1 ∧ KH [] H' H0 ∧ a'.get 5 = .int .i64 i1 : Int → Fr → Heap → Prop) (fun y : Int => ((l_1.length : Int) - y).toNat) 0 ?_ ?_)) ?_
  · exact ⟨he1, Int.le_refl _, by simp only [SB, f2, reduceLT, reduceEqDiff, reduceAdd, reduceLeDiff, reduceMul, Int.reduceEq], by simp only [SB, f2, reduceLT, reduceEqDiff, reduceAdd, reduceLeDiff, reduceMul, Int.reduceEq], by simp only [SB, f2, reduceLT, reduceEqDiff, reduceAdd, reduceLeDiff, reduceMul, Int.reduceEq]⟩
  ·
    rintro i1 a2 H2 ⟨hf2, hl1, kp2, kh1, e4⟩
    by_cases hlt1 : i1 < (l_1.length : Int)
    ·
      obtain ⟨u2, hr1, hl2⟩ := forE_step hf2 hlt1
      replace hr1 : p_dyehouseref12_In_b1 fuel l_1 nv_1 i1 = some u2 := hr1
      unfold p_dyehouseref12_In_b1 at hr1
      have hw1 := wrap_next hlt1 hhi1 hlo1 hl1
      have hlt1_t : decide (i1 < (l_1.length : Int)) = true := decide_eq_true hlt1
      have f3 := And.intro f2 (And.intro (KpF kp2) (And.intro (KHF kh1) (And.intro e4 (And.intro hw1 (hlt1_t)))))
      refine U_seq (U_seq ?_)
      refine U_reg ?_
      simp only [SB, len_sim ty37 rfl, f3, reduceLT, reduceEqDiff, reduceAdd, reduceLeDiff, reduceMul, Int.reduceEq]
      refine hold_intro ?_
      refine U_condT (by simp only [SB, f3, len_sim ty37 rfl, reduceLT, reduceEqDiff, reduceAdd, reduceLeDiff, reduceMul, Int.reduceEq]) (U_skip ?_)
      refine U_seq ?_
      refine U_block ?_
      refine U_seq ?_
      obtain ⟨x1, kx1, hr1⟩ := bndO hr1
      refine U_reg ?_
      simp only [SB, ty37, ty3, iia_sim (f := eInt) ty37 rfl ty3 kx1 rfl, row_sim (f := eInt) kx1, f3, reduceLT, reduceEqDiff, reduceAdd, reduceLeDiff, reduceMul, Int.reduceEq]
      refine hold_intro ?_
      rcases Bool.eq_false_or_eq_true (decide (x1 = nv_1)) with hb1 | hb1
      ·
        rw [if_pos hb1] at hr1
        refine U_condT (by simp only [SB, f3, hb1, ty37, ty3, iia_sim (f := eInt) ty37 rfl ty3 kx1 rfl, row_sim (f := eInt) kx1, reduceLT, reduceEqDiff, reduceAdd, reduceLeDiff, reduceMul, Int.reduceEq]) ?_
        refine U_seq ?_
        refine U_reg ?_
        simp only [SB, f3, hb1, reduceLT, reduceEqDiff, reduceAdd, reduceLeDiff, reduceMul, Int.reduceEq]
        refine hold_intro ?_
        refine U_ret ?_
        replace hr1 := Option.some.inj hr1
        subst hr1
        replace hl2 : u1 = .r _ := hl2
        subst hl2
        replace h := outE_r h
        replace h := Option.some.inj h
        subst h
        refine ⟨.bool true, by simp only [ires, iress, Try.results23, SB, List.toList_toArray, f3, hb1, reduceLT, reduceEqDiff, reduceAdd, reduceLeDiff, reduceMul, Int.reduceEq], ?_⟩
        exact .cl (closed_bool _)
      ·
        rw [if_neg (by rw [hb1]; decide)] at hr1
        refine U_condF (by simp only [SB, f3, hb1, ty37, ty3, iia_sim (f := eInt) ty37 rfl ty3 kx1 rfl, row_sim (f := eInt) kx1, reduceLT, reduceEqDiff, reduceAdd, reduceLeDiff, reduceMul, Int.reduceEq]) ?_
        refine U_skip ?_
        refine U_reg ?_
        simp only [SB, f3, hb1, reduceLT, reduceEqDiff, reduceAdd, reduceLeDiff, reduceMul, Int.reduceEq]
        refine hold_intro ?_
        replace hr1 := Option.some.inj hr1
        subst hr1
        refine ⟨i1 + 1, ?_, hl2, Int.le_add_one hl1, by simp only [SB, f3, hb1, reduceLT, reduceEqDiff, reduceAdd, reduceLeDiff, reduceMul, Int.reduceEq], by simp only [SB, f3, hb1, reduceLT, reduceEqDiff, reduceAdd, reduceLeDiff, reduceMul, Int.reduceEq], by simp only [SB, f3, hb1, reduceLT, reduceEqDiff, reduceAdd, reduceLeDiff, reduceMul, Int.reduceEq]⟩
        show ((l_1.length : Int) - (i1 + 1)).toNat < ((l_1.length : Int) - i1).toNat; omega
    ·
      have hlt1_e := forE_end hf2 hlt1
      have hlt1_t : decide (i1 < (l_1.length : Int)) = false := decide_eq_false hlt1
      have f4 := And.intro f2 (And.intro (KpF kp2) (And.intro (KHF kh1) (And.intro e4 (hlt1_t))))
      refine U_seq (U_seq ?_)
      refine U_reg ?_
      simp only [SB, len_sim ty37 rfl, f4, reduceLT, reduceEqDiff, reduceAdd, reduceLeDiff, reduceMul, Int.reduceEq]
      refine hold_intro ?_
      refine U_condF (by simp only [SB, f4, len_sim ty37 rfl, reduceLT, reduceEqDiff, reduceAdd, reduceLeDiff, reduceMul, Int.reduceEq]) (U_exit rfl ?_)
      exact ⟨hlt1_e, by simp only [SB, f4, reduceLT, reduceEqDiff, reduceAdd, reduceLeDiff, reduceMul, Int.reduceEq], by simp only [SB, f4, reduceLT, reduceEqDiff, reduceAdd, reduceLeDiff, reduceMul, Int.reduceEq]⟩
  ·
    rintro a3 H3 ⟨rfl, kp3, kh2⟩
    replace h := outE_n h
    have f5 := And.intro f2 (And.intro (KpF kp3) ((KHF kh2)))
    refine U_seq ?_
    refine U_reg ?_
    simp only [SB, f5, reduceLT, reduceEqDiff, reduceAdd, reduceLeDiff, reduceMul, Int.reduceEq]
    refine hold_intro ?_
    refine U_ret ?_
    replace h := Option.some.inj h
    subst h
    refine ⟨.bool false, by simp only [ires, iress, Try.results23, SB, List.toList_toArray, f5, reduceLT, reduceEqDiff, reduceAdd, reduceLeDiff, reduceMul, Int.reduceEq], ?_⟩
    exact .cl (closed_bool _)

theorem w_dyehouseref19_Succ {fuel : Nat} {f_1 : Fnc} {r0_ : List (List Int)} (h : p_dyehouseref19_Succ fuel f_1 = some r0_) : Pure1 Try.prog 16 [.agg (eFnc f_1)] (.sim (r0_.map (eS eInt)) false) := by
  refine Pure1_fz (all_cl (cl_agg (cl_eFnc _)) all_cl0) ?_
  refine U_call 0 Try.func16 rfl (by kernel_rfl) (by simp [Try.ntmps16]) ?_
  rw [Try.ntmps16]
  refine U_at (fun a' H' => a'.n = 83 ∧ a'.b = 0 ∧ a'.get 0 = .agg (eFnc f_1)) ⟨rfl, rfl, rfl⟩ ?_
  rintro a0 H0 ⟨hn0, hn1, e1⟩
  unfold p_dyehouseref19_Succ at h
  have f1 := And.intro hn0 (And.intro hn1 (e1))
  refine U_seq ?_
  refine U_reg ?_
  simp only [SB, ty26, sFnc, f1, reduceLT, reduceEqDiff, reduceAdd, reduceLeDiff, reduceMul, Int.reduceEq]
  refine hold_intro ?_
  refine U_seq ?_
  refine U_reg ?_
  simp only [SB, f1, reduceLT, reduceEqDiff, reduceAdd, reduceLeDiff, reduceMul, Int.reduceEq]
  refine hold_intro ?_
  refine U_seq ?_
  refine U_seq ?_
  refine U_reg ?_
  simp only [SB, f1, reduceLT, reduceEqDiff, reduceAdd, reduceLeDiff, reduceMul, Int.reduceEq]
  refine hold_intro ?_
  refine U_at (fun a' H' => Kp [1, 2, 3, 4] 10 a' a0 ∧ KH [1] H' H0 ∧ a'.get 1 = .pb ⟨1, H0.next (1)⟩ 0 0 ∧ a'.get 3 = .nils ∧ a'.get 4 = .int .i64 0 ∧ H'.get ⟨1, H0.next (1)⟩ = some ⟨5, [eFnc f_1]⟩) ⟨by simp only [SB, f1, reduceLT, reduceEqDiff, reduceAdd, reduceLeDiff, reduceMul, Int.reduceEq], by simp only [SB, f1, reduceLT, reduceEqDiff, reduceAdd, reduceLeDiff, reduceMul, Int.reduceEq], by simp only [SB, f1, reduceLT, reduceEqDiff, reduceAdd, reduceLeDiff, reduceMul, Int.reduceEq], by simp only [SB, f1, reduceLT, reduceEqDiff, reduceAdd, reduceLeDiff, reduceMul, Int.reduceEq], by simp only [SB, f1, reduceLT, reduceEqDiff, reduceAdd, reduceLeDiff, reduceMul, Int.reduceEq], by simp only [SB, f1, reduceLT, reduceEqDiff, reduceAdd, reduceLeDiff, reduceMul, Int.reduceEq] <;> rfl⟩ ?_
  rintro a1 H1 ⟨kp1, kh1, e2, e3, e4, e5⟩
  have f2 := And.intro f1 (And.intro (KpF kp1) (And.intro (KHF kh1) (And.intro e2 (And.intro e3 (And.intro e4 (e5))))))
  obtain ⟨out_3, he1, h⟩ := bndO h
  obtain ⟨hhi1, hlo1, he1⟩ := toN_facts he1
  refine U_cut (fun a' H' => ∃ v2, Kp [3, 4, 5, 6, 7, 8, 9] 10 a' a1 ∧ KH [7, 76, 77, 80, 81] H' H1 ∧ Own [81] H' v2 1 (out_3.map (eS eInt)) ∧ a'.get 3 = v2) (U_block (U_loop (fun y a' H' => match y with | (i1, out_2) => forN ((f_1.blocks.length : Int) - i1).toNat i1 (fun i s => p_dyehouseref19_Succ_b1 fuel f_1 i s) out_2 = some out_3 ∧ 0 ≤ i1 ∧ ∃ v1, Kp [3, 4, 5, 6, 7, 8, 9] 10 a' a1 ∧ KH [7, 76, 77, 80, 81] H' H1 ∧ a'.get 4 = .int .i64 i1 ∧ Own [81] H' v1 1 (out_2.map (eS eInt)) ∧ a'.get 3 = v1 : (Int × (List (List Int))) → Fr → Heap → Prop) (fun y : Int × (List (List Int)) => ((f_1.blocks.length : Int) - y.1).toNat) (0, []) ?_ ?_)) ?_
  · exact ⟨he1, Int.le_refl _, _, by simp only [SB, f2, reduceLT, reduceEqDiff, reduceAdd, reduceLeDiff, reduceMul, Int.reduceEq], by simp only [SB, f2, reduceLT, reduceEqDiff, reduceAdd, reduceLeDiff, reduceMul, Int.reduceEq], by simp only [SB, f2, reduceLT, reduceEqDiff, reduceAdd, reduceLeDiff, reduceMul, Int.reduceEq], Own.nil, by simp only [SB, f2, reduceLT, reduceEqDiff, reduceAdd, reduceLeDiff, reduceMul, Int.reduceEq]⟩
  ·
    rintro ⟨i1, out_2⟩ a2 H2 ⟨hf2, hl1, v1, kp2, kh2, e8, o1, e6⟩
    by_cases hlt1 : i1 < (f_1.blocks.length : Int)
    ·
      obtain ⟨u2, hr1, hl2⟩ := forN_step hf2 hlt1
      replace hr1 : p_dyehouseref19_Succ_b1 fuel f_1 i1 out_2 = some u2 := hr1
      unfold p_dyehouseref19_Succ_b1 at hr1
      have hw1 := wrap_next hlt1 hhi1 hlo1 hl1
      have hlt1_t : decide (i1 < (f_1.blocks.length : Int)) = true := decide_eq_true hlt1
      have f3 := And.intro f2 (And.intro e6 (And.intro (KpF kp2) (And.intro (KHF kh2) (And.intro e8 (And.intro hw1 (hlt1_t))))))
      refine U_seq (U_seq ?_)
      refine U_reg ?_
      simp only [SB, ty26, ty24, sFnc, len_sim ty24 rfl, f3, reduceLT, reduceEqDiff, reduceAdd, reduceLeDiff, reduceMul, Int.reduceEq]
      refine hold_intro ?_
      refine U_condT (by simp only [SB, f3, ty26, ty24, sFnc, len_sim ty24 rfl, reduceLT, reduceEqDiff, reduceAdd, reduceLeDiff, reduceMul, Int.reduceEq]) (U_skip ?_)
      refine U_seq ?_
      refine U_block ?_
      refine U_seq ?_
      refine U_reg ?_
      simp only [SB, f3, reduceLT, reduceEqDiff, reduceAdd, reduceLeDiff, reduceMul, Int.reduceEq]
      refine hold_intro ?_
      refine U_seq ?_
      obtain ⟨x1, kx1, hr1⟩ := bndO hr1
      refine U_reg ?_
      simp only [SB, ty26, ty24, sFnc, ty63, iia_sim (f := eBl) ty24 rfl ty63 kx1 rfl, row_sim (f := eBl) kx1, sBl, ty61, f3, reduceLT, reduceEqDiff, reduceAdd, reduceLeDiff, reduceMul, Int.reduceEq]
      refine hold_intro ?_
      refine U_seq ?_
      refine U_at (fun a' H' => Kp [5, 6] 10 a' a2 ∧ H2 = H' ∧ Own [81] H' v1 1 (out_2.map (eS eInt)) ∧ a'.get 5 = .nils ∧ a'.get 6 = .sim (x1.code.map eIns) false) ⟨by simp only [SB, f3, reduceLT, reduceEqDiff, reduceAdd, reduceLeDiff, reduceMul, Int.reduceEq], rfl, (o1.same (by simp only [SB, f3, reduceLT, reduceEqDiff, reduceAdd, reduceLeDiff, reduceMul, Int.reduceEq])), by simp only [SB, f3, ty26, ty24, sFnc, ty63, iia_sim (f := eBl) ty24 rfl ty63 kx1 rfl, row_sim (f := eBl) kx1, sBl, ty61, reduceLT, reduceEqDiff, reduceAdd, reduceLeDiff, reduceMul, Int.reduceEq], by simp only [SB, f3, ty26, ty24, sFnc, ty63, iia_sim (f := eBl) ty24 rfl ty63 kx1 rfl, row_sim (f := eBl) kx1, sBl, ty61, reduceLT, reduceEqDiff, reduceAdd, reduceLeDiff, reduceMul, Int.reduceEq]⟩ ?_
      rintro a3 H3 ⟨kp3, rfl, o3, e9, e10⟩
      have f4 := And.intro f3 (And.intro (KpF kp3) (And.intro e9 (e10)))
      obtain ⟨l_1, kj1, hr1⟩ := bndO hr1
      refine U_cut (fun a' H' => ∃ v3, Kp [5, 7, 8, 9] 10 a' a3 ∧ KH [7, 76, 77] H' H2 ∧ Own [77] H' v3 1 (l_1.map eInt) ∧ a'.get 5 = v3) ?_ ?_
      ·
        refine U_seq ?_
        obtain ⟨b1, kb1, kj1⟩ := bndO kj1
        obtain ⟨b2, kb2, kj1⟩ := bndO kj1
        refine U_cut (fun a' H' => H2 = H' ∧ Kp [] 10 a' a3 ∧ a'.get 45 = .bool b2) ?_ ?_
        · refine U_reg ?_
          rcases Bool.eq_false_or_eq_true (decide (0 < (x1.code.length : Int))) with hb1 | hb1
          ·
            have hx1 := hb1
            rw [if_pos hx1] at kb1
            obtain ⟨x2, kx2, kb1⟩ := bndO kb1
            have hq1 := (Option.some.inj kb1).symm
            rcases Bool.eq_false_or_eq_true (decide (20 ≤ x2.op)) with hb2 | hb2
            ·
              have hx2 : b1 = true := by simp only [SB, hb1, hq1, hb2]
              rw [if_pos hx2] at kb2
              obtain ⟨x3, kx3, kb2⟩ := bndO kb2
              have q1 := Option.some.inj (kx2.symm.trans kx3)
              subst q1
              have hq2 := (Option.some.inj kb2).symm
              simp only [SB, hb1, hq1, hb2, hq2, len_sim ty61 rfl, ty61, ty66, iia_sim (f := eIns) ty61 rfl ty66 kx2 rfl, row_sim (f := eIns) kx2, sIns, ty3, iia_sim (f := eIns) ty61 rfl ty66 kx3 rfl, row_sim (f := eIns) kx3, f4, reduceLT, reduceEqDiff, reduceAdd, reduceLeDiff, reduceMul, Int.reduceEq]
              refine hold_intro ?_
              exact ⟨rfl, by simp only [SB, f4, reduceLT, reduceEqDiff, reduceAdd, reduceLeDiff, reduceMul, Int.reduceEq], by simp only [SB, f4, hb1, hq1, hb2, hq2, len_sim ty61 rfl, ty61, ty66, iia_sim (f := eIns) ty61 rfl ty66 kx2 rfl, row_sim (f := eIns) kx2, sIns, ty3, iia_sim (f := eIns) ty61 rfl ty66 kx3 rfl, row_sim (f := eIns) kx3, reduceLT, reduceEqDiff, reduceAdd, reduceLeDiff, reduceMul, Int.reduceEq]⟩
            ·
              have hx3 : b1 = false := by simp only [SB, hb1, hq1, hb2]
              rw [if_neg (by rw [hx3]; decide)] at kb2
              have hq3 := (Option.some.inj kb2).symm
              simp only [SB, hb1, hq1, hb2, hq3, len_sim ty61 rfl, ty61, ty66, iia_sim (f := eIns) ty61 rfl ty66 kx2 rfl, row_sim (f := eIns) kx2, sIns, ty3, f4, reduceLT, reduceEqDiff, reduceAdd, reduceLeDiff, reduceMul, Int.reduceEq]
              refine hold_intro ?_
              exact ⟨rfl, by simp only [SB, f4, reduceLT, reduceEqDiff, reduceAdd, reduceLeDiff, reduceMul, Int.reduceEq], by simp only [SB, f4, hb1, hq1, hb2, hq3, len_sim ty61 rfl, ty61, ty66, iia_sim (f := eIns) ty61 rfl ty66 kx2 rfl, row_sim (f := eIns) kx2, sIns, ty3, reduceLT, reduceEqDiff, reduceAdd, reduceLeDiff, reduceMul, Int.reduceEq]⟩
          ·
            have hx4 := hb1
            rw [if_neg (by rw [hx4]; decide)] at kb1
            have hq4 := (Option.some.inj kb1).symm
            have hx5 : b1 = false := by simp only [SB, hb1, hq4]
            rw [if_neg (by rw [hx5]; decide)] at kb2
            have hq5 := (Option.some.inj kb2).symm
            simp only [SB, hb1, hq4, hq5, len_sim ty61 rfl, f4, reduceLT, reduceEqDiff, reduceAdd, reduceLeDiff, reduceMul, Int.reduceEq]
            refine hold_intro ?_
            exact ⟨rfl, by simp only [SB, f4, reduceLT, reduceEqDiff, reduceAdd, reduceLeDiff, reduceMul, Int.reduceEq], by simp only [SB, f4, hb1, hq4, hq5, len_sim ty61 rfl, reduceLT, reduceEqDiff, reduceAdd, reduceLeDiff, reduceMul, Int.reduceEq]⟩
        · rintro a5 H5 ⟨rfl, kp5, e12⟩
          have f5 := And.intro f4 (And.intro (KpF kp5) (e12))
          rcases Bool.eq_false_or_eq_true (b2) with hb3 | hb3
          ·
            rw [if_pos hb3] at kj1
            refine U_condT (by simp only [SB, f5, hb3, reduceLT, reduceEqDiff, reduceAdd, reduceLeDiff, reduceMul, Int.reduceEq]) ?_
            refine U_seq ?_
            obtain ⟨x4, kx4, kj1⟩ := bndO kj1
            refine U_reg ?_
            simp only [SB, len_sim ty61 rfl, ty61, ty66, iia_sim (f := eIns) ty61 rfl ty66 kx4 rfl, row_sim (f := eIns) kx4, sIns, splice_all', f5, hb3, reduceLT, reduceEqDiff, reduceAdd, reduceLeDiff, reduceMul, Int.reduceEq]
            refine hold_intro ?_
            refine U_seq ?_
            refine U_reg ?_
            simp only [SB, f5, hb3, reduceLT, reduceEqDiff, reduceAdd, reduceLeDiff, reduceMul, Int.reduceEq]
            refine hold_intro ?_
            refine U_at (fun a' H' => Kp [7, 8] 10 a' a5 ∧ KH [7] H' H2 ∧ Own [81] H' v1 1 (out_2.map (eS eInt)) ∧ a'.get 7 = .pb ⟨7, H2.next (7)⟩ 0 0 ∧ a'.get 8 = .int .i64 0 ∧ H'.get ⟨7, H2.next (7)⟩ = some ⟨10, [eIns x4]⟩) ⟨by simp only [SB, f5, hb3, reduceLT, reduceEqDiff, reduceAdd, reduceLeDiff, reduceMul, Int.reduceEq], by simp only [SB, f5, hb3, reduceLT, reduceEqDiff, reduceAdd, reduceLeDiff, reduceMul, Int.reduceEq], (o3.same (by simp only [SB, f5, hb3, reduceLT, reduceEqDiff, reduceAdd, reduceLeDiff, reduceMul, Int.reduceEq])), by simp only [SB, f5, hb3, reduceLT, reduceEqDiff, reduceAdd, reduceLeDiff, reduceMul, Int.reduceEq], by simp only [SB, f5, hb3, reduceLT, reduceEqDiff, reduceAdd, reduceLeDiff, reduceMul, Int.reduceEq], by simp only [SB, f5, hb3, reduceLT, reduceEqDiff, reduceAdd, reduceLeDiff, reduceMul, Int.reduceEq] <;> rfl⟩ ?_
            rintro a6 H6 ⟨kp6, kh5, o5, e13, e14, e15⟩
            have f6 := And.intro f5 (And.intro hb3 (And.intro (KpF kp6) (And.intro (KHF kh5) (And.intro e13 (And.intro e14 (e15))))))
            obtain ⟨l_4, he2, kj1⟩ := bndO kj1
            obtain ⟨hhi2, hlo2, he2⟩ := toN_facts he2
            refine U_cut (fun a' H' => ∃ v5, Kp [5, 8, 9] 10 a' a6 ∧ KH [76, 77] H' H6 ∧ Own [77] H' v5 1 (l_4.map eInt) ∧ a'.get 5 = v5) (U_block (U_loop (fun y a' H' => match y with | (i2, l_3) => forN ((x4.labels.length : Int) - i2).toNat i2 (fun i s => p_dyehouseref19_Succ_b2 fuel f_1 x4 i s) l_3 = some l_4 ∧ 0 ≤ i2 ∧ ∃ v4, Kp [5, 8, 9] 10 a' a6 ∧ KH [76, 77] H' H6 ∧ a'.get 8 = .int .i64 i2 ∧ Own [77] H' v4 1 (l_3.map eInt) ∧ a'.get 5 = v4 : (Int × (List Int)) → Fr → Heap → Prop) (fun y : Int × (List Int) => ((x4.labels.length : Int) - y.1).toNat) (0, []) ?_ ?_)) ?_
            · exact ⟨he2, Int.le_refl _, _, by simp only [SB, f6, reduceLT, reduceEqDiff, reduceAdd, reduceLeDiff, reduceMul, Int.reduceEq], by simp only [SB, f6, reduceLT, reduceEqDiff, reduceAdd, reduceLeDiff, reduceMul, Int.reduceEq], by simp only [SB, f6, reduceLT, reduceEqDiff, reduceAdd, reduceLeDiff, reduceMul, Int.reduceEq], Own.nil, by simp only [SB, f6, reduceLT, reduceEqDiff, reduceAdd, reduceLeDiff, reduceMul, Int.reduceEq]⟩
            ·
              rintro ⟨i2, l_3⟩ a7 H7 ⟨hf4, hl3, v4, kp7, kh6, e18, o6, e16⟩
              by_cases hlt2 : i2 < (x4.labels.length : Int)
              ·
                obtain ⟨u4, hr2, hl4⟩ := forN_step hf4 hlt2
                replace hr2 : p_dyehouseref19_Succ_b2 fuel f_1 x4 i2 l_3 = some u4 := hr2
                unfold p_dyehouseref19_Succ_b2 at hr2
                have hw2 := wrap_next hlt2 hhi2 hlo2 hl3
                have hlt2_t : decide (i2 < (x4.labels.length : Int)) = true := decide_eq_true hlt2
                have f7 := And.intro f6 (And.intro e16 (And.intro (KpF kp7) (And.intro (KHF kh6) (And.intro e18 (And.intro hw2 (hlt2_t))))))
                refine U_seq (U_seq ?_)
                refine U_reg ?_
                simp only [SB, ty66, ty64, sIns, len_sim ty64 rfl, f7, reduceLT, reduceEqDiff, reduceAdd, reduceLeDiff, reduceMul, Int.reduceEq]
                refine hold_intro ?_
                refine U_condT (by simp only [SB, f7, ty66, ty64, sIns, len_sim ty64 rfl, reduceLT, reduceEqDiff, reduceAdd, reduceLeDiff, reduceMul, Int.reduceEq]) (U_skip ?_)
                refine U_seq ?_
                refine U_block ?_
                refine U_seq ?_
                obtain ⟨x5, kx5, hr2⟩ := bndO hr2
                obtain ⟨r1, kr1, hr2⟩ := bndO hr2
                refine U_draw hm false 6 (by decide +kernel) (by decide) ?_
                simp only [SB, ty26, sFnc, ty66, ty64, sIns, ty9, iia_sim (f := eStr) ty64 rfl ty9 kx5 rfl, row_sim (f := eStr) kx5, f7, reduceLT, reduceEqDiff, reduceAdd, reduceLeDiff, reduceMul, Int.reduceEq]
                refine callP (w_dyehouseref12_Find kr1) ?_
                simp only [SB, ty26, sFnc, ty66, ty64, sIns, ty9, iia_sim (f := eStr) ty64 rfl ty9 kx5 rfl, row_sim (f := eStr) kx5, f7, reduceLT, reduceEqDiff, reduceAdd, reduceLeDiff, reduceMul, Int.reduceEq]
                refine hold_intro ?_
                refine U_seq ?_
                refine U_at (fun a' H' => Kp [9] 10 a' a7 ∧ H7 = H' ∧ Own [81] H' v1 1 (out_2.map (eS eInt)) ∧ Own [77] H' v4 1 (l_3.map eInt) ∧ a'.get 9 = .int .i64 r1) ⟨by simp only [SB, f7, reduceLT, reduceEqDiff, reduceAdd, reduceLeDiff, reduceMul, Int.reduceEq], rfl, (o5.same (by simp only [SB, f7, reduceLT, reduceEqDiff, reduceAdd, reduceLeDiff, reduceMul, Int.reduceEq])), (o6.same (by simp only [SB, f7, reduceLT, reduceEqDiff, reduceAdd, reduceLeDiff, reduceMul, Int.reduceEq])), by simp only [SB, f7, ty26, sFnc, ty66, ty64, sIns, ty9, iia_sim (f := eStr) ty64 rfl ty9 kx5 rfl, row_sim (f := eStr) kx5, reduceLT, reduceEqDiff, reduceAdd, reduceLeDiff, reduceMul, Int.reduceEq]⟩ ?_
                rintro a8 H8 ⟨kp8, rfl, o8, o9, e19⟩
                have f8 := And.intro f7 (And.intro (KpF kp8) (e19))
                obtain ⟨b3, kb3, hr2⟩ := bndO hr2
                refine U_cut (fun a' H' => H7 = H' ∧ Kp [] 10 a' a8 ∧ a'.get 73 = .bool b3) ?_ ?_
                · refine U_reg ?_
                  rcases Bool.eq_false_or_eq_true (decide (0 ≤ r1)) with hb4 | hb4
                  ·
                    have hx6 := hb4
                    rw [if_pos hx6] at kb3
                    obtain ⟨r2, kr2, kb3⟩ := bndO kb3
                    have hq6 := (Option.some.inj kb3).symm
                    simp only [SB, hb4, hq6, f8, reduceLT, reduceEqDiff, reduceAdd, reduceLeDiff, reduceMul, Int.reduceEq]
                    refine callLM (w_dyehouseref12_In kr2) (.cons (((o9.same (by simp only [SB, f8, reduceLT, reduceEqDiff, reduceAdd, reduceLeDiff, reduceMul, Int.reduceEq]))).fz (cls cl_eInt _)) (.cons (.cl (closed_int _ _)) (.nil))) (flat_bool _) ?_
                    simp only [SB, hb4, hq6, f8, reduceLT, reduceEqDiff, reduceAdd, reduceLeDiff, reduceMul, Int.reduceEq]
                    refine hold_intro ?_
                    exact ⟨rfl, by simp only [SB, f8, reduceLT, reduceEqDiff, reduceAdd, reduceLeDiff, reduceMul, Int.reduceEq], by simp only [SB, f8, hb4, hq6, reduceLT, reduceEqDiff, reduceAdd, reduceLeDiff, reduceMul, Int.reduceEq]⟩
                  ·
                    have hx7 := hb4
                    rw [if_neg (by rw [hx7]; decide)] at kb3
                    have hq7 := (Option.some.inj kb3).symm
                    simp only [SB, hb4, hq7, f8, reduceLT, reduceEqDiff, reduceAdd, reduceLeDiff, reduceMul, Int.reduceEq]
                    refine hold_intro ?_
                    exact ⟨rfl, by simp only [SB, f8, reduceLT, reduceEqDiff, reduceAdd, reduceLeDiff, reduceMul, Int.reduceEq], by simp only [SB, f8, hb4, hq7, reduceLT, reduceEqDiff, reduceAdd, reduceLeDiff, reduceMul, Int.reduceEq]⟩
                · rintro a9 H9 ⟨rfl, kp9, e20⟩
                  have f9 := And.intro f8 (And.intro (KpF kp9) (e20))
                  rcases Bool.eq_false_or_eq_true (b3) with hb5 | hb5
                  ·
                    rw [if_pos hb5] at hr2
                    refine U_condT (by simp only [SB, f9, hb5, reduceLT, reduceEqDiff, reduceAdd, reduceLeDiff, reduceMul, Int.reduceEq]) ?_
                    obtain ⟨l1, kl1, hr2⟩ := bndO hr2
                    refine U_reg ?_
                    simp only [SB, ty37, ty3, f9, hb5, reduceLT, reduceEqDiff, reduceAdd, reduceLeDiff, reduceMul, Int.reduceEq]
                    refine Own.appL (f := eInt) (xs := l_3) (ys := [r1]) (D := [77]) (Own.sub (o9.same (by simp only [SB, f9, hb5, reduceLT, reduceEqDiff, reduceAdd, reduceLeDiff, reduceMul, Int.reduceEq])) (by simp only [SB, reduceEqDiff])) (by simp only [put_b, f9, hb5, reduceLT, reduceEqDiff, reduceAdd, reduceLeDiff, reduceMul, Int.reduceEq]) (by simp only [SB, reduceEqDiff]) ty37 rfl ty37 rfl ty3 rfl rfl rfl (by decide) (by simp only [srows_sb, SB, ty37, ty3, f9, hb5, reduceLT, reduceEqDiff, reduceAdd, reduceLeDiff, reduceMul, Int.reduceEq] <;> rfl) cl_eInt kl1 ?_
                    intro v6 H10 o11 kh8
                    simp only [SB, ty37, ty3, f9, hb5, KHF kh8, reduceLT, reduceEqDiff, reduceAdd, reduceLeDiff, reduceMul, Int.reduceEq]
                    refine hold_intro ?_
                    refine U_reg ?_
                    simp only [SB, f9, hb5, KHF kh8, reduceLT, reduceEqDiff, reduceAdd, reduceLeDiff, reduceMul, Int.reduceEq]
                    refine hold_intro ?_
                    replace hr2 := Option.some.inj hr2
                    subst hr2
                    refine ⟨(i2 + 1, l1), ?_, hl4, Int.le_add_one hl3, _, by simp only [SB, f9, hb5, KHF kh8, reduceLT, reduceEqDiff, reduceAdd, reduceLeDiff, reduceMul, Int.reduceEq], by simp only [SB, f9, hb5, KHF kh8, reduceLT, reduceEqDiff, reduceAdd, reduceLeDiff, reduceMul, Int.reduceEq], by simp only [SB, f9, hb5, KHF kh8, reduceLT, reduceEqDiff, reduceAdd, reduceLeDiff, reduceMul, Int.reduceEq], (o11.same (by simp only [SB, f9, hb5, KHF kh8, reduceLT, reduceEqDiff, reduceAdd, reduceLeDiff, reduceMul, Int.reduceEq])), by simp only [SB, f9, hb5, KHF kh8, reduceLT, reduceEqDiff, reduceAdd, reduceLeDiff, reduceMul, Int.reduceEq]⟩
                    show ((x4.labels.length : Int) - (i2 + 1)).toNat < ((x4.labels.length : Int) - i2).toNat; omega
                  ·
                    rw [if_neg (by rw [hb5]; decide)] at hr2
                    refine U_condF (by simp only [SB, f9, hb5, reduceLT, reduceEqDiff, reduceAdd, reduceLeDiff, reduceMul, Int.reduceEq]) ?_
                    refine U_skip ?_
                    refine U_reg ?_
                    simp only [SB, f9, hb5, reduceLT, reduceEqDiff, reduceAdd, reduceLeDiff, reduceMul, Int.reduceEq]
                    refine hold_intro ?_
                    replace hr2 := Option.some.inj hr2
                    subst hr2
                    refine ⟨(i2 + 1, l_3), ?_, hl4, Int.le_add_one hl3, _, by simp only [SB, f9, hb5, reduceLT, reduceEqDiff, reduceAdd, reduceLeDiff, reduceMul, Int.reduceEq], by simp only [SB, f9, hb5, reduceLT, reduceEqDiff, reduceAdd, reduceLeDiff, reduceMul, Int.reduceEq], by simp only [SB, f9, hb5, reduceLT, reduceEqDiff, reduceAdd, reduceLeDiff, reduceMul, Int.reduceEq], (o9.same (by simp only [SB, f9, hb5, reduceLT, reduceEqDiff, reduceAdd, reduceLeDiff, reduceMul, Int.reduceEq])), by simp only [SB, f9, hb5, reduceLT, reduceEqDiff, reduceAdd, reduceLeDiff, reduceMul, Int.reduceEq]⟩
                    show ((x4.labels.length : Int) - (i2 + 1)).toNat < ((x4.labels.length : Int) - i2).toNat; omega
              ·
                have hlt2_e := forN_end hf4 hlt2
                have hlt2_t : decide (i2 < (x4.labels.length : Int)) = false := decide_eq_false hlt2
                have f10 := And.intro f6 (And.intro e16 (And.intro (KpF kp7) (And.intro (KHF kh6) (And.intro e18 (hlt2_t)))))
                refine U_seq (U_seq ?_)
                refine U_reg ?_
                simp only [SB, ty66, ty64, sIns, len_sim ty64 rfl, f10, reduceLT, reduceEqDiff, reduceAdd, reduceLeDiff, reduceMul, Int.reduceEq]
                refine hold_intro ?_
                refine U_condF (by simp only [SB, f10, ty66, ty64, sIns, len_sim ty64 rfl, reduceLT, reduceEqDiff, reduceAdd, reduceLeDiff, reduceMul, Int.reduceEq]) (U_exit rfl ?_)
                cases hlt2_e
                exact ⟨_, by simp only [SB, f10, reduceLT, reduceEqDiff, reduceAdd, reduceLeDiff, reduceMul, Int.reduceEq], by simp only [SB, f10, reduceLT, reduceEqDiff, reduceAdd, reduceLeDiff, reduceMul, Int.reduceEq], (o6.same (by simp only [SB, f10, reduceLT, reduceEqDiff, reduceAdd, reduceLeDiff, reduceMul, Int.reduceEq])), by simp only [SB, f10, ty66, ty64, sIns, len_sim ty64 rfl, reduceLT, reduceEqDiff, reduceAdd, reduceLeDiff, reduceMul, Int.reduceEq]⟩
            ·
              rintro a10 H11 ⟨v7, kp10, kh9, o12, e21⟩
              have f11 := And.intro f6 (And.intro e21 (And.intro (KpF kp10) ((KHF kh9))))
              replace kj1 := Option.some.inj kj1
              subst kj1
              exact ⟨_, by simp only [SB, f11, reduceLT, reduceEqDiff, reduceAdd, reduceLeDiff, reduceMul, Int.reduceEq], by simp only [SB, f11, reduceLT, reduceEqDiff, reduceAdd, reduceLeDiff, reduceMul, Int.reduceEq], (o12.same (by simp only [SB, f11, reduceLT, reduceEqDiff, reduceAdd, reduceLeDiff, reduceMul, Int.reduceEq])), by simp only [SB, f11, reduceLT, reduceEqDiff, reduceAdd, reduceLeDiff, reduceMul, Int.reduceEq]⟩
          ·
            rw [if_neg (by rw [hb3]; decide)] at kj1
            refine U_condF (by simp only [SB, f5, hb3, reduceLT, reduceEqDiff, reduceAdd, reduceLeDiff, reduceMul, Int.reduceEq]) ?_
            refine U_skip ?_
            replace kj1 := Option.some.inj kj1
            subst kj1
            exact ⟨_, by simp only [SB, f5, hb3, reduceLT, reduceEqDiff, reduceAdd, reduceLeDiff, reduceMul, Int.reduceEq], by simp only [SB, f5, hb3, reduceLT, reduceEqDiff, reduceAdd, reduceLeDiff, reduceMul, Int.reduceEq], Own.nil, by simp only [SB, f5, hb3, reduceLT, reduceEqDiff, reduceAdd, reduceLeDiff, reduceMul, Int.reduceEq]⟩
      ·
        rintro a4 H4 ⟨v3, kp4, kh3, o4, e11⟩
        have f12 := And.intro f4 (And.intro e11 (And.intro (KpF kp4) ((KHF kh3))))
        refine U_freeze (rows := (l_1 : List Int).map eInt) 5 (o4.same (by simp only [SB, f12, reduceLT, reduceEqDiff, reduceAdd, reduceLeDiff, reduceMul, Int.reduceEq])) (cls cl_eInt _) (by simp only [SB, f12, reduceLT, reduceEqDiff, reduceAdd, reduceLeDiff, reduceMul, Int.reduceEq]) ?_
        intro H12 kh10
        obtain ⟨l2, kl2, hr1⟩ := bndO hr1
        refine U_reg ?_
        simp only [SB, ty31, ty37, f12, KHF kh10, reduceLT, reduceEqDiff, reduceAdd, reduceLeDiff, reduceMul, Int.reduceEq]
        refine Own.appL (f := eS eInt) (xs := out_2) (ys := [l_1]) (D := [81]) (Own.sub (o3.same (by simp only [SB, f12, KHF kh10, reduceLT, reduceEqDiff, reduceAdd, reduceLeDiff, reduceMul, Int.reduceEq])) (by simp only [SB, reduceEqDiff])) (by simp only [put_b, f12, KHF kh10, reduceLT, reduceEqDiff, reduceAdd, reduceLeDiff, reduceMul, Int.reduceEq]) (by simp only [SB, reduceEqDiff]) ty31 rfl ty31 rfl ty37 rfl rfl rfl (by decide) (by simp only [srows_sb, SB, ty31, ty37, f12, KHF kh10, reduceLT, reduceEqDiff, reduceAdd, reduceLeDiff, reduceMul, Int.reduceEq] <;> rfl) (cl_eS cl_eInt) kl2 ?_
        intro v8 H13 o14 kh11
        simp only [SB, ty31, ty37, f12, KHF kh10, KHF kh11, reduceLT, reduceEqDiff, reduceAdd, reduceLeDiff, reduceMul, Int.reduceEq]
        refine hold_intro ?_
        refine U_reg ?_
        simp only [SB, f12, KHF kh10, KHF kh11, reduceLT, reduceEqDiff, reduceAdd, reduceLeDiff, reduceMul, Int.reduceEq]
        refine hold_intro ?_
        replace hr1 := Option.some.inj hr1
        subst hr1
        refine ⟨(i1 + 1, l2), ?_, hl2, Int.le_add_one hl1, _, by simp only [SB, f12, KHF kh10, KHF kh11, reduceLT, reduceEqDiff, reduceAdd, reduceLeDiff, reduceMul, Int.reduceEq], by simp only [SB, f12, KHF kh10, KHF kh11, reduceLT, reduceEqDiff, reduceAdd, reduceLeDiff, reduceMul, Int.reduceEq], by simp only [SB, f12, KHF kh10, KHF kh11, reduceLT, reduceEqDiff, reduceAdd, reduceLeDiff, reduceMul, Int.reduceEq], (o14.same (by simp only [SB, f12, KHF kh10, KHF kh11, reduceLT, reduceEqDiff, reduceAdd, reduceLeDiff, reduceMul, Int.reduceEq])), by simp only [SB, f12, KHF kh10, KHF kh11, reduceLT, reduceEqDiff, reduceAdd, reduceLeDiff, reduceMul, Int.reduceEq]⟩
        show ((f_1.blocks.length : Int) - (i1 + 1)).toNat < ((f_1.blocks.length : Int) - i1).toNat; omega
    ·
      have hlt1_e := forN_end hf2 hlt1
      have hlt1_t : decide (i1 < (f_1.blocks.length : Int)) = false := decide_eq_false hlt1
      have f13 := And.intro f2 (And.intro e6 (And.intro (KpF kp2) (And.intro (KHF kh2) (And.intro e8 (hlt1_t)))))
      refine U_seq (U_seq ?_)
      refine U_reg ?_
      simp only [SB, ty26, ty24, sFnc, len_sim ty24 rfl, f13, reduceLT, reduceEqDiff, reduceAdd, reduceLeDiff, reduceMul, Int.reduceEq]
      refine hold_intro ?_
      refine U_condF (by simp only [SB, f13, ty26, ty24, sFnc, len_sim ty24 rfl, reduceLT, reduceEqDiff, reduceAdd, reduceLeDiff, reduceMul, Int.reduceEq]) (U_exit rfl ?_)
      cases hlt1_e
      exact ⟨_, by simp only [SB, f13, reduceLT, reduceEqDiff, reduceAdd, reduceLeDiff, reduceMul, Int.reduceEq], by simp only [SB, f13, reduceLT, reduceEqDiff, reduceAdd, reduceLeDiff, reduceMul, Int.reduceEq], (o1.same (by simp only [SB, f13, reduceLT, reduceEqDiff, reduceAdd, reduceLeDiff, reduceMul, Int.reduceEq])), by simp only [SB, f13, ty26, ty24, sFnc, len_sim ty24 rfl, reduceLT, reduceEqDiff, reduceAdd, reduceLeDiff, reduceMul, Int.reduceEq]⟩
  ·
    rintro a11 H14 ⟨v9, kp11, kh12, o15, e22⟩
    have f14 := And.intro f2 (And.intro e22 (And.intro (KpF kp11) ((KHF kh12))))
    refine U_seq ?_
    refine U_reg ?_
    simp only [SB, f14, reduceLT, reduceEqDiff, reduceAdd, reduceLeDiff, reduceMul, Int.reduceEq]
    refine hold_intro ?_
    refine U_ret ?_
    replace h := Option.some.inj h
    subst h
    refine ⟨v9, by simp only [ires, iress, Try.results16, SB, List.toList_toArray, f14, reduceLT, reduceEqDiff, reduceAdd, reduceLeDiff, reduceMul, Int.reduceEq], ?_⟩
    exact ((o15.same (by simp only [SB, f14, reduceLT, reduceEqDiff, reduceAdd, reduceLeDiff, reduceMul, Int.reduceEq]))).fz (cls (cl_eS cl_eInt) _)

theorem w_dyehouseref19_Pred {fuel : Nat} {succ_1 : List (List Int)} {i_1 : Int} {r0_ : List Int} (h : p_dyehouseref19_Pred fuel succ_1 i_1 = some r0_) : Pure1 Try.prog 22 [.sim (succ_1.map (eS eInt)) false, .int .i64 i_1] (.sim (r0_.map eInt) false) := by
  refine Pure1_fz (all_cl (cl_map (cl_eS cl_eInt) _) (all_cl (closed_int _ _) all_cl0)) ?_
  refine U_call 0 Try.func22 rfl (by kernel_rfl) (by simp [Try.ntmps22]) ?_
  rw [Try.ntmps22]
  refine U_at (fun a' H' => a'.n = 24 ∧ a'.b = 0 ∧ a'.get 0 = .sim (succ_1.map (eS eInt)) false ∧ a'.get 1 = .int .i64 i_1) ⟨rfl, rfl, rfl, rfl⟩ ?_
  rintro a0 H0 ⟨hn0, hn1, e1, e2⟩
  unfold p_dyehouseref19_Pred at h
  have f1 := And.intro hn0 (And.intro hn1 (And.intro e1 (e2)))
  refine U_seq ?_
  refine U_reg ?_
  simp only [SB, f1, reduceLT, reduceEqDiff, reduceAdd, reduceLeDiff, reduceMul, Int.reduceEq]
  refine hold_intro ?_
  refine U_seq ?_
  refine U_reg ?_
  simp only [SB, f1, reduceLT, reduceEqDiff, reduceAdd, reduceLeDiff, reduceMul, Int.reduceEq]
  refine hold_intro ?_
  refine U_seq ?_
  refine U_seq ?_
  refine U_reg ?_
  simp only [SB, f1, reduceLT, reduceEqDiff, reduceAdd, reduceLeDiff, reduceMul, Int.reduceEq]
  refine hold_intro ?_
  refine U_at (fun a' H' => Kp [4, 5, 6] 7 a' a0 ∧ H0 = H' ∧ a'.get 5 = .nils ∧ a'.get 6 = .int .i64 0) ⟨by simp only [SB, f1, reduceLT, reduceEqDiff, reduceAdd, reduceLeDiff, reduceMul, Int.reduceEq], rfl, by simp only [SB, f1, reduceLT, reduceEqDiff, reduceAdd, reduceLeDiff, reduceMul, Int.reduceEq], by simp only [SB, f1, reduceLT, reduceEqDiff, reduceAdd, reduceLeDiff, reduceMul, Int.reduceEq]⟩ ?_
  rintro a1 H1 ⟨kp1, rfl, e3, e4⟩
  have f2 := And.intro f1 (And.intro (KpF kp1) (And.intro e3 (e4)))
  obtain ⟨out_3, he1, h⟩ := bndO h
  obtain ⟨hhi1, hlo1, he1⟩ := toN_facts he1
  refine U_cut (fun a' H' => ∃ v2, Kp [5, 6] 7 a' a1 ∧ KH [21, 22] H' H0 ∧ Own [22] H' v2 1 (out_3.map eInt) ∧ a'.get 5 = v2) (U_block (U_loop (fun y a' H' => match y with | (i1, out_2) => forN ((succ_1.length : Int) - i1).toNat i1 (fun i s => p_dyehouseref19_Pred_b1 fuel succ_1 i_1 i s) out_2 = some out_3 ∧ 0 ≤ i1 ∧ ∃ v1, Kp [5, 6] 7 a' a1 ∧ KH [21, 22] H' H0 ∧ a'.get 6 = .int .i64 i1 ∧ Own [22] H' v1 1 (out_2.map eInt) ∧ a'.get 5 = v1 : (Int × (List Int)) → Fr → Heap → Prop) (fun y : Int × (List Int) => ((succ_1.length : Int) - y.1).toNat) (0, []) ?_ ?_)) ?_
  · exact ⟨he1, Int.le_refl _, _, by simp only [SB, f2, reduceLT, reduceEqDiff, reduceAdd, reduceLeDiff, reduceMul, Int.reduceEq], by simp only [SB, f2, reduceLT, reduceEqDiff, reduceAdd, reduceLeDiff, reduceMul, Int.reduceEq], by simp only [SB, f2, reduceLT, reduceEqDiff, reduceAdd, reduceLeDiff, reduceMul, Int.reduceEq], Own.nil, by simp only [SB, f2, reduceLT, reduceEqDiff, reduceAdd, reduceLeDiff, reduceMul, Int.reduceEq]⟩
  ·
    rintro ⟨i1, out_2⟩ a2 H2 ⟨hf2, hl1, v1, kp2, kh1, e7, o1, e5⟩
    by_cases hlt1 : i1 < (succ_1.length : Int)
    ·
      obtain ⟨u2, hr1, hl2⟩ := forN_step hf2 hlt1
      replace hr1 : p_dyehouseref19_Pred_b1 fuel succ_1 i_1 i1 out_2 = some u2 := hr1
      unfold p_dyehouseref19_Pred_b1 at hr1
      have hw1 := wrap_next hlt1 hhi1 hlo1 hl1
      have hlt1_t : decide (i1 < (succ_1.length : Int)) = true := decide_eq_true hlt1
      have f3 := And.intro f2 (And.intro e5 (And.intro (KpF kp2) (And.intro (KHF kh1) (And.intro e7 (And.intro hw1 (hlt1_t))))))
      refine U_seq (U_seq ?_)
      refine U_reg ?_
      simp only [SB, len_sim ty31 rfl, f3, reduceLT, reduceEqDiff, reduceAdd, reduceLeDiff, reduceMul, Int.reduceEq]
      refine hold_intro ?_
      refine U_condT (by simp only [SB, f3, len_sim ty31 rfl, reduceLT, reduceEqDiff, reduceAdd, reduceLeDiff, reduceMul, Int.reduceEq]) (U_skip ?_)
      refine U_seq ?_
      refine U_block ?_
      refine U_seq ?_
      obtain ⟨x1, kx1, hr1⟩ := bndO hr1
      obtain ⟨r1, kr1, hr1⟩ := bndO hr1
      refine U_reg ?_
      simp only [SB, ty31, ty37, iia_sim (f := eS eInt) ty31 rfl ty37 kx1 rfl, row_sim (f := eS eInt) kx1, f3, reduceLT, reduceEqDiff, reduceAdd, reduceLeDiff, reduceMul, Int.reduceEq]
      refine callP (w_dyehouseref12_In kr1) ?_
      simp only [SB, ty31, ty37, iia_sim (f := eS eInt) ty31 rfl ty37 kx1 rfl, row_sim (f := eS eInt) kx1, f3, reduceLT, reduceEqDiff, reduceAdd, reduceLeDiff, reduceMul, Int.reduceEq]
      refine hold_intro ?_
      rcases Bool.eq_false_or_eq_true (r1) with hb1 | hb1
      ·
        rw [if_pos hb1] at hr1
        refine U_condT (by simp only [SB, f3, hb1, ty31, ty37, iia_sim (f := eS eInt) ty31 rfl ty37 kx1 rfl, row_sim (f := eS eInt) kx1, reduceLT, reduceEqDiff, reduceAdd, reduceLeDiff, reduceMul, Int.reduceEq]) ?_
        obtain ⟨l1, kl1, hr1⟩ := bndO hr1
        refine U_reg ?_
        simp only [SB, ty37, ty3, f3, hb1, reduceLT, reduceEqDiff, reduceAdd, reduceLeDiff, reduceMul, Int.reduceEq]
        refine Own.appL (f := eInt) (xs := out_2) (ys := [i1]) (D := [22]) (Own.sub (o1.same (by simp only [SB, f3, hb1, reduceLT, reduceEqDiff, reduceAdd, reduceLeDiff, reduceMul, Int.reduceEq])) (by simp only [SB, reduceEqDiff])) (by simp only [put_b, f3, hb1, reduceLT, reduceEqDiff, reduceAdd, reduceLeDiff, reduceMul, Int.reduceEq]) (by simp only [SB, reduceEqDiff]) ty37 rfl ty37 rfl ty3 rfl rfl rfl (by decide) (by simp only [srows_sb, SB, ty37, ty3, f3, hb1, reduceLT, reduceEqDiff, reduceAdd, reduceLeDiff, reduceMul, Int.reduceEq] <;> rfl) cl_eInt kl1 ?_
        intro v3 H3 o4 kh2
        simp only [SB, ty37, ty3, f3, hb1, KHF kh2, reduceLT, reduceEqDiff, reduceAdd, reduceLeDiff, reduceMul, Int.reduceEq]
        refine hold_intro ?_
        refine U_reg ?_
        simp only [SB, f3, hb1, KHF kh2, reduceLT, reduceEqDiff, reduceAdd, reduceLeDiff, reduceMul, Int.reduceEq]
        refine hold_intro ?_
        replace hr1 := Option.some.inj hr1
        subst hr1
        refine ⟨(i1 + 1, l1), ?_, hl2, Int.le_add_one hl1, _, by simp only [SB, f3, hb1, KHF kh2, reduceLT, reduceEqDiff, reduceAdd, reduceLeDiff, reduceMul, Int.reduceEq], by simp only [SB, f3, hb1, KHF kh2, reduceLT, reduceEqDiff, reduceAdd, reduceLeDiff, reduceMul, Int.reduceEq], by simp only [SB, f3, hb1, KHF kh2, reduceLT, reduceEqDiff, reduceAdd, reduceLeDiff, reduceMul, Int.reduceEq], (o4.same (by simp only [SB, f3, hb1, KHF kh2, reduceLT, reduceEqDiff, reduceAdd, reduceLeDiff, reduceMul, Int.reduceEq])), by simp only [SB, f3, hb1, KHF kh2, reduceLT, reduceEqDiff, reduceAdd, reduceLeDiff, reduceMul, Int.reduceEq]⟩
        show ((succ_1.length : Int) - (i1 + 1)).toNat < ((succ_1.length : Int) - i1).toNat; omega
      ·
        rw [if_neg (by rw [hb1]; decide)] at hr1
        refine U_condF (by simp only [SB, f3, hb1, ty31, ty37, iia_sim (f := eS eInt) ty31 rfl ty37 kx1 rfl, row_sim (f := eS eInt) kx1, reduceLT, reduceEqDiff, reduceAdd, reduceLeDiff, reduceMul, Int.reduceEq]) ?_
        refine U_skip ?_
        refine U_reg ?_
        simp only [SB, f3, hb1, reduceLT, reduceEqDiff, reduceAdd, reduceLeDiff, reduceMul, Int.reduceEq]
        refine hold_intro ?_
        replace hr1 := Option.some.inj hr1
        subst hr1
        refine ⟨(i1 + 1, out_2), ?_, hl2, Int.le_add_one hl1, _, by simp only [SB, f3, hb1, reduceLT, reduceEqDiff, reduceAdd, reduceLeDiff, reduceMul, Int.reduceEq], by simp only [SB, f3, hb1, reduceLT, reduceEqDiff, reduceAdd, reduceLeDiff, reduceMul, Int.reduceEq], by simp only [SB, f3, hb1, reduceLT, reduceEqDiff, reduceAdd, reduceLeDiff, reduceMul, Int.reduceEq], (o1.same (by simp only [SB, f3, hb1, reduceLT, reduceEqDiff, reduceAdd, reduceLeDiff, reduceMul, Int.reduceEq])), by simp only [SB, f3, hb1, reduceLT, reduceEqDiff, reduceAdd, reduceLeDiff, reduceMul, Int.reduceEq]⟩
        show ((succ_1.length : Int) - (i1 + 1)).toNat < ((succ_1.length : Int) - i1).toNat; omega
    ·
      have hlt1_e := forN_end hf2 hlt1
      have hlt1_t : decide (i1 < (succ_1.length : Int)) = false := decide_eq_false hlt1
      have f4 := And.intro f2 (And.intro e5 (And.intro (KpF kp2) (And.intro (KHF kh1) (And.intro e7 (hlt1_t)))))
      refine U_seq (U_seq ?_)
      refine U_reg ?_
      simp only [SB, len_sim ty31 rfl, f4, reduceLT, reduceEqDiff, reduceAdd, reduceLeDiff, reduceMul, Int.reduceEq]
      refine hold_intro ?_
      refine U_condF (by simp only [SB, f4, len_sim ty31 rfl, reduceLT, reduceEqDiff, reduceAdd, reduceLeDiff, reduceMul, Int.reduceEq]) (U_exit rfl ?_)
      cases hlt1_e
      exact ⟨_, by simp only [SB, f4, reduceLT, reduceEqDiff, reduceAdd, reduceLeDiff, reduceMul, Int.reduceEq], by simp only [SB, f4, reduceLT, reduceEqDiff, reduceAdd, reduceLeDiff, reduceMul, Int.reduceEq], (o1.same (by simp only [SB, f4, reduceLT, reduceEqDiff, reduceAdd, reduceLeDiff, reduceMul, Int.reduceEq])), by simp only [SB, f4, len_sim ty31 rfl, reduceLT, reduceEqDiff, reduceAdd, reduceLeDiff, reduceMul, Int.reduceEq]⟩
  ·
    rintro a3 H4 ⟨v4, kp3, kh3, o5, e8⟩
    have f5 := And.intro f2 (And.intro e8 (And.intro (KpF kp3) ((KHF kh3))))
    refine U_seq ?_
    refine U_reg ?_
    simp only [SB, f5, reduceLT, reduceEqDiff, reduceAdd, reduceLeDiff, reduceMul, Int.reduceEq]
    refine hold_intro ?_
    refine U_ret ?_
    replace h := Option.some.inj h
    subst h
    refine ⟨v4, by simp only [ires, iress, Try.results22, SB, List.toList_toArray, f5, reduceLT, reduceEqDiff, reduceAdd, reduceLeDiff, reduceMul, Int.reduceEq], ?_⟩
    exact ((o5.same (by simp only [SB, f5, reduceLT, reduceEqDiff, reduceAdd, reduceLeDiff, reduceMul, Int.reduceEq]))).fz (cls cl_eInt _)

theorem w_dyehouseref19_Reach {fuel : Nat} {succ_1 : List (List Int)} {fromv_1 : Int} {without_1 : Int} {r0_ : List Bool} (h : p_dyehouseref19_Reach fuel succ_1 fromv_1 without_1 = some r0_) : Pure1 Try.prog 24 [.sim (succ_1.map (eS eInt)) false, .int .i64 fromv_1, .int .i64 without_1] (.sim (r0_.map eBool) false) := by
  refine Pure1_fz (all_cl (cl_map (cl_eS cl_eInt) _) (all_cl (closed_int _ _) (all_cl (closed_int _ _) all_cl0))) ?_
  refine U_call 0 Try.func24 rfl (by kernel_rfl) (by simp [Try.ntmps24]) ?_
  rw [Try.ntmps24]
  refine U_at (fun a' H' => a'.n = 77 ∧ a'.b = 0 ∧ a'.get 0 = .sim (succ_1.map (eS eInt)) false ∧ a'.get 1 = .int .i64 fromv_1 ∧ a'.get 2 = .int .i64 without_1) ⟨rfl, rfl, rfl, rfl, rfl⟩ ?_
  rintro a0 H0 ⟨hn0, hn1, e1, e2, e3⟩
  unfold p_dyehouseref19_Reach at h
  have f1 := And.intro hn0 (And.intro hn1 (And.intro e1 (And.intro e2 (e3))))
  refine U_seq ?_
  refine U_reg ?_
  simp only [SB, f1, reduceLT, reduceEqDiff, reduceAdd, reduceLeDiff, reduceMul, Int.reduceEq]
  refine hold_intro ?_
  refine U_seq ?_
  obtain ⟨l1, kl1, h⟩ := bndO h
  refine U_reg ?_
  simp only [SB, len_sim ty31 rfl, ty42, ty4, imk_some (d := 13) (f := eBool) ty42 rfl ty4 rfl rfl (by decide) kl1, f1, reduceLT, reduceEqDiff, reduceAdd, reduceLeDiff, reduceMul, Int.reduceEq]
  refine hold_intro ?_
  refine U_seq ?_
  refine U_seq ?_
  refine U_at (fun a' H' => Kp [6, 7] 11 a' a0 ∧ KH [13] H' H0 ∧ Own [13] H' (.sb ⟨13, H0.next (13)⟩ 0 l1.length true) 1 (l1.map eBool) ∧ a'.get 7 = .sb ⟨13, H0.next (13)⟩ 0 l1.length true) ⟨by simp only [SB, f1, reduceLT, reduceEqDiff, reduceAdd, reduceLeDiff, reduceMul, Int.reduceEq], by simp only [SB, f1, reduceLT, reduceEqDiff, reduceAdd, reduceLeDiff, reduceMul, Int.reduceEq], (Own.mk (id := ⟨13, H0.next (13)⟩) (by simp only [SB, reduceEqDiff]) (by simp only [SB]) (by simp only [SB, f1, reduceLT, reduceEqDiff, reduceAdd, reduceLeDiff, reduceMul, Int.reduceEq] <;> rfl)), by simp only [SB, f1, len_sim ty31 rfl, ty42, ty4, imk_some (d := 13) (f := eBool) ty42 rfl ty4 rfl rfl (by decide) kl1, reduceLT, reduceEqDiff, reduceAdd, reduceLeDiff, reduceMul, Int.reduceEq]⟩ ?_
  rintro a1 H1 ⟨kp1, kh1, o1, e4⟩
  have f2 := And.intro f1 (And.intro (KpF kp1) (And.intro (KHF kh1) (e4)))
  refine U_cut (fun a' H' => H1 = H' ∧ Kp [] 11 a' a1 ∧ a'.get 26 = .bool (((decide (fromv_1 < 0)) || (decide ((succ_1.length : Int) ≤ fromv_1))) || (decide (fromv_1 = without_1)))) ?_ ?_
  · refine U_reg ?_
    rcases Bool.eq_false_or_eq_true (decide (fromv_1 < 0)) with hb1 | hb1
    ·
      simp only [SB, hb1, f2, reduceLT, reduceEqDiff, reduceAdd, reduceLeDiff, reduceMul, Int.reduceEq]
      refine hold_intro ?_
      exact ⟨rfl, by simp only [SB, f2, reduceLT, reduceEqDiff, reduceAdd, reduceLeDiff, reduceMul, Int.reduceEq], by simp only [SB, f2, hb1, reduceLT, reduceEqDiff, reduceAdd, reduceLeDiff, reduceMul, Int.reduceEq]⟩
    ·
      rcases Bool.eq_false_or_eq_true (decide ((succ_1.length : Int) ≤ fromv_1)) with hb2 | hb2
      ·
        simp only [SB, hb1, hb2, len_sim ty31 rfl, f2, reduceLT, reduceEqDiff, reduceAdd, reduceLeDiff, reduceMul, Int.reduceEq]
        refine hold_intro ?_
        exact ⟨rfl, by simp only [SB, f2, reduceLT, reduceEqDiff, reduceAdd, reduceLeDiff, reduceMul, Int.reduceEq], by simp only [SB, f2, hb1, hb2, len_sim ty31 rfl, reduceLT, reduceEqDiff, reduceAdd, reduceLeDiff, reduceMul, Int.reduceEq]⟩
      ·
        simp only [SB, hb1, hb2, len_sim ty31 rfl, f2, reduceLT, reduceEqDiff, reduceAdd, reduceLeDiff, reduceMul, Int.reduceEq]
        refine hold_intro ?_
        exact ⟨rfl, by simp only [SB, f2, reduceLT, reduceEqDiff, reduceAdd, reduceLeDiff, reduceMul, Int.reduceEq], by simp only [SB, f2, hb1, hb2, len_sim ty31 rfl, reduceLT, reduceEqDiff, reduceAdd, reduceLeDiff, reduceMul, Int.reduceEq]⟩
  · rintro a2 H2 ⟨rfl, kp2, e5⟩
    have f3 := And.intro f2 (And.intro (KpF kp2) (e5))
    rcases Bool.eq_false_or_eq_true ((((decide (fromv_1 < 0)) || (decide ((succ_1.length : Int) ≤ fromv_1))) || (decide (fromv_1 = without_1)))) with hb3 | hb3
    ·
      rw [if_pos hb3] at h
      refine U_condT (by simp only [SB, f3, hb3, reduceLT, reduceEqDiff, reduceAdd, reduceLeDiff, reduceMul, Int.reduceEq]) ?_
      refine U_seq ?_
      refine U_reg ?_
      simp only [SB, f3, hb3, reduceLT, reduceEqDiff, reduceAdd, reduceLeDiff, reduceMul, Int.reduceEq]
      refine hold_intro ?_
      refine U_ret ?_
      replace h := Option.some.inj h
      subst h
      refine ⟨.sb ⟨13, H0.next (13)⟩ 0 l1.length true, by simp only [ires, iress, Try.results24, SB, List.toList_toArray, f3, hb3, reduceLT, reduceEqDiff, reduceAdd, reduceLeDiff, reduceMul, Int.reduceEq], ?_⟩
      exact ((o1.same (by simp only [SB, f3, hb3, reduceLT, reduceEqDiff, reduceAdd, reduceLeDiff, reduceMul, Int.reduceEq]))).fz (cls cl_eBool _)
    ·
      rw [if_neg (by rw [hb3]; decide)] at h
      refine U_condF (by simp only [SB, f3, hb3, reduceLT, reduceEqDiff, reduceAdd, reduceLeDiff, reduceMul, Int.reduceEq]) ?_
      refine U_skip ?_
      refine U_seq ?_
      obtain ⟨x1, kx1, h⟩ := bndO h
      obtain ⟨l2, kl2, h⟩ := bndO h
      refine U_reg ?_
      obtain ⟨w1_i, w1_r, w1_d, w1_f⟩ := Own.at (P := Try.prog) (k := .i64) o1 ty42 rfl ty4 rfl (idx_facts kx1).1 (row_map (f := eBool) kx1)
      have w1_1 := fun H1 hs => (w1_f H1 hs).1
      have w1_2 := fun H1 hs => (w1_f H1 hs).2.1
      simp only [SB, ty42, ty4, w1_1, w1_2, f3, hb3, reduceLT, reduceEqDiff, reduceAdd, reduceLeDiff, reduceMul, Int.reduceEq]
      refine putK_at w1_f (by simp only [SB, f3, hb3, reduceLT, reduceEqDiff, reduceAdd, reduceLeDiff, reduceMul, Int.reduceEq]) w1_d ty4 rfl rfl (by simp only [SB, ty42, ty4, w1_1, w1_2, reduceLT, reduceEqDiff, reduceAdd, reduceLeDiff, reduceMul, Int.reduceEq] <;> decide) (by simp only [SB, ty42, ty4, w1_1, w1_2, reduceLT, reduceEqDiff, reduceAdd, reduceLeDiff, reduceMul, Int.reduceEq]) ?_
      intro H3 o2 khH3
      replace o2 := Own.setL (f := eBool) kl2 (by simp only [SB, ty42, ty4, w1_1, w1_2, reduceLT, reduceEqDiff, reduceAdd, reduceLeDiff, reduceMul, Int.reduceEq] <;> rfl) o2
      simp only [SB, ty42, ty4, w1_1, w1_2, f3, hb3, KHF khH3, reduceLT, reduceEqDiff, reduceAdd, reduceLeDiff, reduceMul, Int.reduceEq]
      refine hold_intro ?_
      refine U_seq ?_
      refine U_seq ?_
      refine U_reg ?_
      simp only [SB, f3, hb3, KHF khH3, reduceLT, reduceEqDiff, reduceAdd, reduceLeDiff, reduceMul, Int.reduceEq]
      refine hold_intro ?_
      refine U_at (fun a' H' => Kp [8] 11 a' a2 ∧ KH [13] H' H1 ∧ Own [13] H' (.sb ⟨13, H0.next (13)⟩ 0 l1.length true) 1 (l2.map eBool) ∧ a'.get 8 = .int .i64 0) ⟨by simp only [SB, f3, hb3, KHF khH3, reduceLT, reduceEqDiff, reduceAdd, reduceLeDiff, reduceMul, Int.reduceEq], by simp only [SB, f3, hb3, KHF khH3, reduceLT, reduceEqDiff, reduceAdd, reduceLeDiff, reduceMul, Int.reduceEq], (o2.same (by simp only [SB, f3, hb3, KHF khH3, reduceLT, reduceEqDiff, reduceAdd, reduceLeDiff, reduceMul, Int.reduceEq])), by simp only [SB, f3, hb3, KHF khH3, reduceLT, reduceEqDiff, reduceAdd, reduceLeDiff, reduceMul, Int.reduceEq]⟩ ?_
      rintro a3 H4 ⟨kp3, kh3, o3, e6⟩
      have f4 := And.intro f3 (And.intro hb3 (And.intro (KHF khH3) (And.intro (KpF kp3) (And.intro (KHF kh3) (e6)))))
      obtain ⟨seen_3, he1, h⟩ := bndO h
      obtain ⟨hhi1, hlo1, he1⟩ := toN_facts he1
      refine U_cut (fun a' H' => Kp [8, 9, 10] 11 a' a3 ∧ KH [13] H' H4 ∧ Own [13] H' (.sb ⟨13, H0.next (13)⟩ 0 l1.length true) 1 (seen_3.map eBool) ∧ a'.get 7 = .sb ⟨13, H0.next (13)⟩ 0 l1.length true) (U_block (U_loop (fun y a' H' => match y with | (i1, seen_2) => forN ((succ_1.length : Int) - i1).toNat i1 (fun i s => p_dyehouseref19_Reach_b1 fuel succ_1 without_1 i s) seen_2 = some seen_3 ∧ 0 ≤ i1 ∧ Kp [8, 9, 10] 11 a' a3 ∧ KH [13] H' H4 ∧ a'.get 8 = .int .i64 i1 ∧ Own [13] H' (.sb ⟨13, H0.next (13)⟩ 0 l1.length true) 1 (seen_2.map eBool) ∧ a'.get 7 = .sb ⟨13, H0.next (13)⟩ 0 l1.length true : (Int × (List Bool)) → Fr → Heap → Prop) (fun y : Int × (List Bool) => ((succ_1.length : Int) - y.1).toNat) (0, l2) ?_ ?_)) ?_
      · exact ⟨he1, Int.le_refl _, by simp only [SB, f4, reduceLT, reduceEqDiff, reduceAdd, reduceLeDiff, reduceMul, Int.reduceEq], by simp only [SB, f4, reduceLT, reduceEqDiff, reduceAdd, reduceLeDiff, reduceMul, Int.reduceEq], by simp only [SB, f4, reduceLT, reduceEqDiff, reduceAdd, reduceLeDiff, reduceMul, Int.reduceEq], (o3.same (by simp only [SB, f4, reduceLT, reduceEqDiff, reduceAdd, reduceLeDiff, reduceMul, Int.reduceEq])), by simp only [SB, f4, reduceLT, reduceEqDiff, reduceAdd, reduceLeDiff, reduceMul, Int.reduceEq]⟩
      ·
        rintro ⟨i1, seen_2⟩ a4 H5 ⟨hf2, hl1, kp4, kh4, e9, o4, e7⟩
        by_cases hlt1 : i1 < (succ_1.length : Int)
        ·
          obtain ⟨u2, hr1, hl2⟩ := forN_step hf2 hlt1
          replace hr1 : p_dyehouseref19_Reach_b1 fuel succ_1 without_1 i1 seen_2 = some u2 := hr1
          unfold p_dyehouseref19_Reach_b1 at hr1
          have hw1 := wrap_next hlt1 hhi1 hlo1 hl1
          have hlt1_t : decide (i1 < (succ_1.length : Int)) = true := decide_eq_true hlt1
          have f5 := And.intro f4 (And.intro e7 (And.intro (KpF kp4) (And.intro (KHF kh4) (And.intro e9 (And.intro hw1 (hlt1_t))))))
          refine U_seq (U_seq ?_)
          refine U_reg ?_
          simp only [SB, len_sim ty31 rfl, f5, reduceLT, reduceEqDiff, reduceAdd, reduceLeDiff, reduceMul, Int.reduceEq]
          refine hold_intro ?_
          refine U_condT (by simp only [SB, f5, len_sim ty31 rfl, reduceLT, reduceEqDiff, reduceAdd, reduceLeDiff, reduceMul, Int.reduceEq]) (U_skip ?_)
          refine U_seq ?_
          refine U_block ?_
          refine U_seq ?_
          refine U_reg ?_
          simp only [SB, f5, reduceLT, reduceEqDiff, reduceAdd, reduceLeDiff, reduceMul, Int.reduceEq]
          refine hold_intro ?_
          refine U_at (fun a' H' => Kp [9] 11 a' a4 ∧ H5 = H' ∧ Own [13] H' (.sb ⟨13, H0.next (13)⟩ 0 l1.length true) 1 (seen_2.map eBool) ∧ a'.get 9 = .int .i64 0) ⟨by simp only [SB, f5, reduceLT, reduceEqDiff, reduceAdd, reduceLeDiff, reduceMul, Int.reduceEq], rfl, (o4.same (by simp only [SB, f5, reduceLT, reduceEqDiff, reduceAdd, reduceLeDiff, reduceMul, Int.reduceEq])), by simp only [SB, f5, reduceLT, reduceEqDiff, reduceAdd, reduceLeDiff, reduceMul, Int.reduceEq]⟩ ?_
          rintro a5 H6 ⟨kp5, rfl, o6, e10⟩
          have f6 := And.intro f5 (And.intro (KpF kp5) (e10))
          obtain ⟨seen_6, he2, hr1⟩ := bndO hr1
          obtain ⟨hhi2, hlo2, he2⟩ := toN_facts he2
          refine U_cut (fun a' H' => Kp [9, 10] 11 a' a5 ∧ KH [13] H' H5 ∧ Own [13] H' (.sb ⟨13, H0.next (13)⟩ 0 l1.length true) 1 (seen_6.map eBool) ∧ a'.get 7 = .sb ⟨13, H0.next (13)⟩ 0 l1.length true) (U_block (U_loop (fun y a' H' => match y with | (i2, seen_5) => forN ((succ_1.length : Int) - i2).toNat i2 (fun i s => p_dyehouseref19_Reach_b2 fuel succ_1 without_1 i s) seen_5 = some seen_6 ∧ 0 ≤ i2 ∧ Kp [9, 10] 11 a' a5 ∧ KH [13] H' H5 ∧ a'.get 9 = .int .i64 i2 ∧ Own [13] H' (.sb ⟨13, H0.next (13)⟩ 0 l1.length true) 1 (seen_5.map eBool) ∧ a'.get 7 = .sb ⟨13, H0.next (13)⟩ 0 l1.length true : (Int × (List Bool)) → Fr → Heap → Prop) (fun y : Int × (List Bool) => ((succ_1.length : Int) - y.1).toNat) (0, seen_2) ?_ ?_)) ?_
          · exact ⟨he2, Int.le_refl _, by simp only [SB, f6, reduceLT, reduceEqDiff, reduceAdd, reduceLeDiff, reduceMul, Int.reduceEq], by simp only [SB, f6, reduceLT, reduceEqDiff, reduceAdd, reduceLeDiff, reduceMul, Int.reduceEq], by simp only [SB, f6, reduceLT, reduceEqDiff, reduceAdd, reduceLeDiff, reduceMul, Int.reduceEq], (o6.same (by simp only [SB, f6, reduceLT, reduceEqDiff, reduceAdd, reduceLeDiff, reduceMul, Int.reduceEq])), by simp only [SB, f6, reduceLT, reduceEqDiff, reduceAdd, reduceLeDiff, reduceMul, Int.reduceEq]⟩
          ·
            rintro ⟨i2, seen_5⟩ a6 H7 ⟨hf4, hl3, kp6, kh5, e13, o7, e11⟩
            by_cases hlt2 : i2 < (succ_1.length : Int)
            ·
              obtain ⟨u4, hr2, hl4⟩ := forN_step hf4 hlt2
              replace hr2 : p_dyehouseref19_Reach_b2 fuel succ_1 without_1 i2 seen_5 = some u4 := hr2
              unfold p_dyehouseref19_Reach_b2 at hr2
              have hw2 := wrap_next hlt2 hhi2 hlo2 hl3
              have hlt2_t : decide (i2 < (succ_1.length : Int)) = true := decide_eq_true hlt2
              have f7 := And.intro f6 (And.intro e11 (And.intro (KpF kp6) (And.intro (KHF kh5) (And.intro e13 (And.intro hw2 (hlt2_t))))))
              refine U_seq (U_seq ?_)
              refine U_reg ?_
              simp only [SB, len_sim ty31 rfl, f7, reduceLT, reduceEqDiff, reduceAdd, reduceLeDiff, reduceMul, Int.reduceEq]
              refine hold_intro ?_
              refine U_condT (by simp only [SB, f7, len_sim ty31 rfl, reduceLT, reduceEqDiff, reduceAdd, reduceLeDiff, reduceMul, Int.reduceEq]) (U_skip ?_)
              refine U_seq ?_
              refine U_block ?_
              refine U_seq ?_
              refine U_reg ?_
              simp only [SB, f7, reduceLT, reduceEqDiff, reduceAdd, reduceLeDiff, reduceMul, Int.reduceEq]
              refine hold_intro ?_
              refine U_at (fun a' H' => Kp [10] 11 a' a6 ∧ H7 = H' ∧ a'.get 10 = .int .i64 0 ∧ Own [13] H' (.sb ⟨13, H0.next (13)⟩ 0 l1.length true) 1 (seen_5.map eBool)) ⟨by simp only [SB, f7, reduceLT, reduceEqDiff, reduceAdd, reduceLeDiff, reduceMul, Int.reduceEq], rfl, by simp only [SB, f7, reduceLT, reduceEqDiff, reduceAdd, reduceLeDiff, reduceMul, Int.reduceEq], (o7.same (by simp only [SB, f7, reduceLT, reduceEqDiff, reduceAdd, reduceLeDiff, reduceMul, Int.reduceEq]))⟩ ?_
              rintro a7 H8 ⟨kp7, rfl, e14, o9⟩
              have f8 := And.intro f7 (And.intro (KpF kp7) (e14))
              obtain ⟨u5, he3, hr2⟩ := bndE hr2
              refine U_cut (fun a' H' => ∃ k_2 : Int, ∃ seen_8 : List Bool, u5 = .n (k_2, seen_8) ∧ Kp [10] 11 a' a7 ∧ KH [13] H' H7 ∧ a'.get 10 = .int .i64 k_2 ∧ Own [13] H' (.sb ⟨13, H0.next (13)⟩ 0 l1.length true) 1 (seen_8.map eBool) ∧ a'.get 7 = .sb ⟨13, H0.next (13)⟩ 0 l1.length true) (U_block (U_loop (fun y a' H' => match y with | (m1, k_2, seen_8) => loopE m1 (fun s => p_dyehouseref19_Reach_b3 fuel succ_1 without_1 i2 s.1 s.2) (k_2, seen_8) = some u5 ∧ Kp [10] 11 a' a7 ∧ KH [13] H' H7 ∧ a'.get 10 = .int .i64 k_2 ∧ Own [13] H' (.sb ⟨13, H0.next (13)⟩ 0 l1.length true) 1 (seen_8.map eBool) ∧ a'.get 7 = .sb ⟨13, H0.next (13)⟩ 0 l1.length true : (Nat × Int × (List Bool)) → Fr → Heap → Prop) (fun y : Nat × Int × (List Bool) => y.1) (fuel, 0, seen_5) ?_ ?_)) ?_
              · exact ⟨he3, by simp only [SB, f8, reduceLT, reduceEqDiff, reduceAdd, reduceLeDiff, reduceMul, Int.reduceEq], by simp only [SB, f8, reduceLT, reduceEqDiff, reduceAdd, reduceLeDiff, reduceMul, Int.reduceEq], by simp only [SB, f8, reduceLT, reduceEqDiff, reduceAdd, reduceLeDiff, reduceMul, Int.reduceEq], (o9.same (by simp only [SB, f8, reduceLT, reduceEqDiff, reduceAdd, reduceLeDiff, reduceMul, Int.reduceEq])), by simp only [SB, f8, reduceLT, reduceEqDiff, reduceAdd, reduceLeDiff, reduceMul, Int.reduceEq]⟩
              ·
                rintro ⟨m1, k_2, seen_8⟩ a8 H9 ⟨hf6, kp8, kh6, e15, o10, e16⟩
                obtain ⟨m1', m1_lt, u6, hr3, hl6⟩ := loopE_step hf6
                replace hr3 : p_dyehouseref19_Reach_b3 fuel succ_1 without_1 i2 k_2 seen_8 = some u6 := hr3
                unfold p_dyehouseref19_Reach_b3 at hr3
                have f9 := And.intro f8 (And.intro e15 (And.intro e16 (And.intro (KpF kp8) ((KHF kh6)))))
                refine U_seq ?_
                refine U_seq ?_
                obtain ⟨x2, kx2, hr3⟩ := bndO hr3
                obtain ⟨b1, kb1, hr3⟩ := bndO hr3
                refine U_cut (fun a' H' => H9 = H' ∧ Kp [] 11 a' a8 ∧ a'.get 55 = .bool b1) ?_ ?_
                · refine U_reg ?_
                  rcases Bool.eq_false_or_eq_true (x2) with hb4 | hb4
                  ·
                    have hx1 := hb4
                    rw [if_pos hx1] at kb1
                    obtain ⟨x3, kx3, kb1⟩ := bndO kb1
                    have hq1 := (Option.some.inj kb1).symm
                    obtain ⟨w2_i, w2_r, w2_d, w2_f⟩ := Own.at (P := Try.prog) (k := .i64) o10 ty42 rfl ty4 rfl (idx_facts kx2).1 (row_map (f := eBool) kx2)
                    have w2_1 := fun H1 hs => (w2_f H1 hs).1
                    have w2_2 := fun H1 hs => (w2_f H1 hs).2.1
                    simp only [SB, hb4, hq1, ty42, ty4, w2_1, w2_2, ty31, ty37, iia_sim (f := eS eInt) ty31 rfl ty37 kx3 rfl, row_sim (f := eS eInt) kx3, len_sim ty37 rfl, f9, reduceLT, reduceEqDiff, reduceAdd, reduceLeDiff, reduceMul, Int.reduceEq]
                    refine hold_intro ?_
                    exact ⟨rfl, by simp only [SB, f9, reduceLT, reduceEqDiff, reduceAdd, reduceLeDiff, reduceMul, Int.reduceEq], by simp only [SB, f9, hb4, hq1, ty42, ty4, w2_1, w2_2, ty31, ty37, iia_sim (f := eS eInt) ty31 rfl ty37 kx3 rfl, row_sim (f := eS eInt) kx3, len_sim ty37 rfl, reduceLT, reduceEqDiff, reduceAdd, reduceLeDiff, reduceMul, Int.reduceEq]⟩
                  ·
                    have hx2 := hb4
                    rw [if_neg (by rw [hx2]; decide)] at kb1
                    have hq2 := (Option.some.inj kb1).symm
                    obtain ⟨w2_i, w2_r, w2_d, w2_f⟩ := Own.at (P := Try.prog) (k := .i64) o10 ty42 rfl ty4 rfl (idx_facts kx2).1 (row_map (f := eBool) kx2)
                    have w2_1 := fun H1 hs => (w2_f H1 hs).1
                    have w2_2 := fun H1 hs => (w2_f H1 hs).2.1
                    simp only [SB, hb4, hq2, ty42, ty4, w2_1, w2_2, f9, reduceLT, reduceEqDiff, reduceAdd, reduceLeDiff, reduceMul, Int.reduceEq]
                    refine hold_intro ?_
                    exact ⟨rfl, by simp only [SB, f9, reduceLT, reduceEqDiff, reduceAdd, reduceLeDiff, reduceMul, Int.reduceEq], by simp only [SB, f9, hb4, hq2, ty42, ty4, w2_1, w2_2, reduceLT, reduceEqDiff, reduceAdd, reduceLeDiff, reduceMul, Int.reduceEq]⟩
                · rintro a9 H10 ⟨rfl, kp9, e18⟩
                  have f10 := And.intro f9 (And.intro (KpF kp9) (e18))
                  rcases Bool.eq_false_or_eq_true (b1) with hb5 | hb5
                  ·
                    rw [if_pos hb5] at hr3
                    refine U_condT (by simp only [SB, f10, hb5, reduceLT, reduceEqDiff, reduceAdd, reduceLeDiff, reduceMul, Int.reduceEq]) ?_
                    refine U_skip ?_
                    refine U_seq ?_
                    obtain ⟨seen_9, kj1, hr3⟩ := bndO hr3
                    refine U_cut (fun a' H' => Kp [] 11 a' a9 ∧ KH [13] H' H9 ∧ Own [13] H' (.sb ⟨13, H0.next (13)⟩ 0 l1.length true) 1 (seen_9.map eBool) ∧ a'.get 7 = .sb ⟨13, H0.next (13)⟩ 0 l1.length true) ?_ ?_
                    ·
                      refine U_block ?_
                      refine U_seq ?_
                      obtain ⟨x4, kx4, kj1⟩ := bndO kj1
                      obtain ⟨x5, kx5, kj1⟩ := bndO kj1
                      refine U_reg ?_
                      simp only [SB, ty31, ty37, iia_sim (f := eS eInt) ty31 rfl ty37 kx4 rfl, row_sim (f := eS eInt) kx4, ty3, iia_sim (f := eInt) ty37 rfl ty3 kx5 rfl, row_sim (f := eInt) kx5, f10, hb5, reduceLT, reduceEqDiff, reduceAdd, reduceLeDiff, reduceMul, Int.reduceEq]
                      refine hold_intro ?_
                      rcases Bool.eq_false_or_eq_true (decide (x5 ≠ without_1)) with hb6 | hb6
                      ·
                        rw [if_pos hb6] at kj1
                        refine U_condT (by simp only [SB, f10, hb5, hb6, ty31, ty37, iia_sim (f := eS eInt) ty31 rfl ty37 kx4 rfl, row_sim (f := eS eInt) kx4, ty3, iia_sim (f := eInt) ty37 rfl ty3 kx5 rfl, row_sim (f := eInt) kx5, reduceLT, reduceEqDiff, reduceAdd, reduceLeDiff, reduceMul, Int.reduceEq]) ?_
                        obtain ⟨x6, kx6, kj1⟩ := bndO kj1
                        obtain ⟨l3, kl3, kj1⟩ := bndO kj1
                        refine U_reg ?_
                        obtain ⟨w3_i, w3_r, w3_d, w3_f⟩ := Own.at (P := Try.prog) (k := .i64) o10 ty42 rfl ty4 rfl (idx_facts kx6).1 (row_map (f := eBool) kx6)
                        have w3_1 := fun H1 hs => (w3_f H1 hs).1
                        have w3_2 := fun H1 hs => (w3_f H1 hs).2.1
                        simp only [SB, ty31, ty37, iia_sim (f := eS eInt) ty31 rfl ty37 kx4 rfl, row_sim (f := eS eInt) kx4, ty3, iia_sim (f := eInt) ty37 rfl ty3 kx5 rfl, row_sim (f := eInt) kx5, ty42, ty4, w3_1, w3_2, f10, hb5, hb6, reduceLT, reduceEqDiff, reduceAdd, reduceLeDiff, reduceMul, Int.reduceEq]
                        refine putK_at w3_f (by simp only [SB, f10, hb5, hb6, reduceLT, reduceEqDiff, reduceAdd, reduceLeDiff, reduceMul, Int.reduceEq]) w3_d ty4 rfl rfl (by simp only [SB, ty31, ty37, iia_sim (f := eS eInt) ty31 rfl ty37 kx4 rfl, row_sim (f := eS eInt) kx4, ty3, iia_sim (f := eInt) ty37 rfl ty3 kx5 rfl, row_sim (f := eInt) kx5, ty42, ty4, w3_1, w3_2, reduceLT, reduceEqDiff, reduceAdd, reduceLeDiff, reduceMul, Int.reduceEq] <;> decide) (by simp only [SB, ty31, ty37, iia_sim (f := eS eInt) ty31 rfl ty37 kx4 rfl, row_sim (f := eS eInt) kx4, ty3, iia_sim (f := eInt) ty37 rfl ty3 kx5 rfl, row_sim (f := eInt) kx5, ty42, ty4, w3_1, w3_2, reduceLT, reduceEqDiff, reduceAdd, reduceLeDiff, reduceMul, Int.reduceEq]) ?_
                        intro H12 o12 khH12
                        replace o12 := Own.setL (f := eBool) kl3 (by simp only [SB, ty31, ty37, iia_sim (f := eS eInt) ty31 rfl ty37 kx4 rfl, row_sim (f := eS eInt) kx4, ty3, iia_sim (f := eInt) ty37 rfl ty3 kx5 rfl, row_sim (f := eInt) kx5, ty42, ty4, w3_1, w3_2, reduceLT, reduceEqDiff, reduceAdd, reduceLeDiff, reduceMul, Int.reduceEq] <;> rfl) o12
                        simp only [SB, ty31, ty37, iia_sim (f := eS eInt) ty31 rfl ty37 kx4 rfl, row_sim (f := eS eInt) kx4, ty3, iia_sim (f := eInt) ty37 rfl ty3 kx5 rfl, row_sim (f := eInt) kx5, ty42, ty4, w3_1, w3_2, f10, hb5, hb6, KHF khH12, reduceLT, reduceEqDiff, reduceAdd, reduceLeDiff, reduceMul, Int.reduceEq]
                        refine hold_intro ?_
                        replace kj1 := Option.some.inj kj1
                        subst kj1
                        exact ⟨by simp only [SB, f10, hb5, hb6, KHF khH12, reduceLT, reduceEqDiff, reduceAdd, reduceLeDiff, reduceMul, Int.reduceEq], by simp only [SB, f10, hb5, hb6, KHF khH12, reduceLT, reduceEqDiff, reduceAdd, reduceLeDiff, reduceMul, Int.reduceEq], (o12.same (by simp only [SB, f10, hb5, hb6, KHF khH12, reduceLT, reduceEqDiff, reduceAdd, reduceLeDiff, reduceMul, Int.reduceEq])), by simp only [SB, f10, hb5, hb6, KHF khH12, ty31, ty37, iia_sim (f := eS eInt) ty31 rfl ty37 kx4 rfl, row_sim (f := eS eInt) kx4, ty3, iia_sim (f := eInt) ty37 rfl ty3 kx5 rfl, row_sim (f := eInt) kx5, ty42, ty4, w3_1, w3_2, reduceLT, reduceEqDiff, reduceAdd, reduceLeDiff, reduceMul, Int.reduceEq]⟩
                      ·
                        rw [if_neg (by rw [hb6]; decide)] at kj1
                        refine U_condF (by simp only [SB, f10, hb5, hb6, ty31, ty37, iia_sim (f := eS eInt) ty31 rfl ty37 kx4 rfl, row_sim (f := eS eInt) kx4, ty3, iia_sim (f := eInt) ty37 rfl ty3 kx5 rfl, row_sim (f := eInt) kx5, reduceLT, reduceEqDiff, reduceAdd, reduceLeDiff, reduceMul, Int.reduceEq]) ?_
                        refine U_skip ?_
                        replace kj1 := Option.some.inj kj1
                        subst kj1
                        exact ⟨by simp only [SB, f10, hb5, hb6, reduceLT, reduceEqDiff, reduceAdd, reduceLeDiff, reduceMul, Int.reduceEq], by simp only [SB, f10, hb5, hb6, reduceLT, reduceEqDiff, reduceAdd, reduceLeDiff, reduceMul, Int.reduceEq], (o10.same (by simp only [SB, f10, hb5, hb6, reduceLT, reduceEqDiff, reduceAdd, reduceLeDiff, reduceMul, Int.reduceEq])), by simp only [SB, f10, hb5, hb6, ty31, ty37, iia_sim (f := eS eInt) ty31 rfl ty37 kx4 rfl, row_sim (f := eS eInt) kx4, ty3, iia_sim (f := eInt) ty37 rfl ty3 kx5 rfl, row_sim (f := eInt) kx5, reduceLT, reduceEqDiff, reduceAdd, reduceLeDiff, reduceMul, Int.reduceEq]⟩
                    ·
                      rintro a10 H11 ⟨kp10, kh8, o11, e19⟩
                      have f11 := And.intro f10 (And.intro hb5 (And.intro e19 (And.intro (KpF kp10) ((KHF kh8)))))
                      refine U_reg ?_
                      simp only [SB, f11, reduceLT, reduceEqDiff, reduceAdd, reduceLeDiff, reduceMul, Int.reduceEq]
                      refine hold_intro ?_
                      replace hr3 := Option.some.inj hr3
                      subst hr3
                      exact ⟨(m1', IntKind.wrap .i64 (k_2 + 1), seen_9), m1_lt, hl6, by simp only [SB, f11, reduceLT, reduceEqDiff, reduceAdd, reduceLeDiff, reduceMul, Int.reduceEq], by simp only [SB, f11, reduceLT, reduceEqDiff, reduceAdd, reduceLeDiff, reduceMul, Int.reduceEq], by simp only [SB, f11, reduceLT, reduceEqDiff, reduceAdd, reduceLeDiff, reduceMul, Int.reduceEq], (o11.same (by simp only [SB, f11, reduceLT, reduceEqDiff, reduceAdd, reduceLeDiff, reduceMul, Int.reduceEq])), by simp only [SB, f11, reduceLT, reduceEqDiff, reduceAdd, reduceLeDiff, reduceMul, Int.reduceEq]⟩
                  ·
                    rw [if_neg (by rw [hb5]; decide)] at hr3
                    refine U_condF (by simp only [SB, f10, hb5, reduceLT, reduceEqDiff, reduceAdd, reduceLeDiff, reduceMul, Int.reduceEq]) ?_
                    refine U_exit rfl ?_
                    replace hr3 := Option.some.inj hr3
                    subst hr3
                    exact ⟨_, _, hl6, by simp only [SB, f10, hb5, reduceLT, reduceEqDiff, reduceAdd, reduceLeDiff, reduceMul, Int.reduceEq], by simp only [SB, f10, hb5, reduceLT, reduceEqDiff, reduceAdd, reduceLeDiff, reduceMul, Int.reduceEq], by simp only [SB, f10, hb5, reduceLT, reduceEqDiff, reduceAdd, reduceLeDiff, reduceMul, Int.reduceEq], (o10.same (by simp only [SB, f10, hb5, reduceLT, reduceEqDiff, reduceAdd, reduceLeDiff, reduceMul, Int.reduceEq])), by simp only [SB, f10, hb5, reduceLT, reduceEqDiff, reduceAdd, reduceLeDiff, reduceMul, Int.reduceEq]⟩
              ·
                rintro a11 H13 ⟨k_3, seen_10, rfl, kp11, kh9, e20, o13, e21⟩
                replace hr2 := outE_n hr2
                dsimp only at hr2
                have f12 := And.intro f8 (And.intro e20 (And.intro e21 (And.intro (KpF kp11) ((KHF kh9)))))
                refine U_reg ?_
                simp only [SB, f12, reduceLT, reduceEqDiff, reduceAdd, reduceLeDiff, reduceMul, Int.reduceEq]
                refine hold_intro ?_
                replace hr2 := Option.some.inj hr2
                subst hr2
                refine ⟨(i2 + 1, seen_10), ?_, hl4, Int.le_add_one hl3, by simp only [SB, f12, reduceLT, reduceEqDiff, reduceAdd, reduceLeDiff, reduceMul, Int.reduceEq], by simp only [SB, f12, reduceLT, reduceEqDiff, reduceAdd, reduceLeDiff, reduceMul, Int.reduceEq], by simp only [SB, f12, reduceLT, reduceEqDiff, reduceAdd, reduceLeDiff, reduceMul, Int.reduceEq], (o13.same (by simp only [SB, f12, reduceLT, reduceEqDiff, reduceAdd, reduceLeDiff, reduceMul, Int.reduceEq])), by simp only [SB, f12, reduceLT, reduceEqDiff, reduceAdd, reduceLeDiff, reduceMul, Int.reduceEq]⟩
                show ((succ_1.length : Int) - (i2 + 1)).toNat < ((succ_1.length : Int) - i2).toNat; omega
            ·
              have hlt2_e := forN_end hf4 hlt2
              have hlt2_t : decide (i2 < (succ_1.length : Int)) = false := decide_eq_false hlt2
              have f13 := And.intro f6 (And.intro e11 (And.intro (KpF kp6) (And.intro (KHF kh5) (And.intro e13 (hlt2_t)))))
              refine U_seq (U_seq ?_)
              refine U_reg ?_
              simp only [SB, len_sim ty31 rfl, f13, reduceLT, reduceEqDiff, reduceAdd, reduceLeDiff, reduceMul, Int.reduceEq]
              refine hold_intro ?_
              refine U_condF (by simp only [SB, f13, len_sim ty31 rfl, reduceLT, reduceEqDiff, reduceAdd, reduceLeDiff, reduceMul, Int.reduceEq]) (U_exit rfl ?_)
              cases hlt2_e
              exact ⟨by simp only [SB, f13, reduceLT, reduceEqDiff, reduceAdd, reduceLeDiff, reduceMul, Int.reduceEq], by simp only [SB, f13, reduceLT, reduceEqDiff, reduceAdd, reduceLeDiff, reduceMul, Int.reduceEq], (o7.same (by simp only [SB, f13, reduceLT, reduceEqDiff, reduceAdd, reduceLeDiff, reduceMul, Int.reduceEq])), by simp only [SB, f13, len_sim ty31 rfl, reduceLT, reduceEqDiff, reduceAdd, reduceLeDiff, reduceMul, Int.reduceEq]⟩
          ·
            rintro a12 H14 ⟨kp12, kh10, o14, e22⟩
            have f14 := And.intro f6 (And.intro e22 (And.intro (KpF kp12) ((KHF kh10))))
            refine U_reg ?_
            simp only [SB, f14, reduceLT, reduceEqDiff, reduceAdd, reduceLeDiff, reduceMul, Int.reduceEq]
            refine hold_intro ?_
            replace hr1 := Option.some.inj hr1
            subst hr1
            refine ⟨(i1 + 1, seen_6), ?_, hl2, Int.le_add_one hl1, by simp only [SB, f14, reduceLT, reduceEqDiff, reduceAdd, reduceLeDiff, reduceMul, Int.reduceEq], by simp only [SB, f14, reduceLT, reduceEqDiff, reduceAdd, reduceLeDiff, reduceMul, Int.reduceEq], by simp only [SB, f14, reduceLT, reduceEqDiff, reduceAdd, reduceLeDiff, reduceMul, Int.reduceEq], (o14.same (by simp only [SB, f14, reduceLT, reduceEqDiff, reduceAdd, reduceLeDiff, reduceMul, Int.reduceEq])), by simp only [SB, f14, reduceLT, reduceEqDiff, reduceAdd, reduceLeDiff, reduceMul, Int.reduceEq]⟩
            show ((succ_1.length : Int) - (i1 + 1)).toNat < ((succ_1.length : Int) - i1).toNat; omega
        ·
          have hlt1_e := forN_end hf2 hlt1
          have hlt1_t : decide (i1 < (succ_1.length : Int)) = false := decide_eq_false hlt1
          have f15 := And.intro f4 (And.intro e7 (And.intro (KpF kp4) (And.intro (KHF kh4) (And.intro e9 (hlt1_t)))))
          refine U_seq (U_seq ?_)
          refine U_reg ?_
          simp only [SB, len_sim ty31 rfl, f15, reduceLT, reduceEqDiff, reduceAdd, reduceLeDiff, reduceMul, Int.reduceEq]
          refine hold_intro ?_
          refine U_condF (by simp only [SB, f15, len_sim ty31 rfl, reduceLT, reduceEqDiff, reduceAdd, reduceLeDiff, reduceMul, Int.reduceEq]) (U_exit rfl ?_)
          cases hlt1_e
          exact ⟨by simp only [SB, f15, reduceLT, reduceEqDiff, reduceAdd, reduceLeDiff, reduceMul, Int.reduceEq], by simp only [SB, f15, reduceLT, reduceEqDiff, reduceAdd, reduceLeDiff, reduceMul, Int.reduceEq], (o4.same (by simp only [SB, f15, reduceLT, reduceEqDiff, reduceAdd, reduceLeDiff, reduceMul, Int.reduceEq])), by simp only [SB, f15, len_sim ty31 rfl, reduceLT, reduceEqDiff, reduceAdd, reduceLeDiff, reduceMul, Int.reduceEq]⟩
      ·
        rintro a13 H15 ⟨kp13, kh11, o15, e23⟩
        have f16 := And.intro f4 (And.intro e23 (And.intro (KpF kp13) ((KHF kh11))))
        refine U_seq ?_
        refine U_reg ?_
        simp only [SB, f16, reduceLT, reduceEqDiff, reduceAdd, reduceLeDiff, reduceMul, Int.reduceEq]
        refine hold_intro ?_
        refine U_ret ?_
        replace h := Option.some.inj h
        subst h
        refine ⟨.sb ⟨13, H0.next (13)⟩ 0 l1.length true, by simp only [ires, iress, Try.results24, SB, List.toList_toArray, f16, reduceLT, reduceEqDiff, reduceAdd, reduceLeDiff, reduceMul, Int.reduceEq], ?_⟩
        exact ((o15.same (by simp only [SB, f16, reduceLT, reduceEqDiff, reduceAdd, reduceLeDiff, reduceMul, Int.reduceEq]))).fz (cls cl_eBool _)

theorem w_dyehouseref19_walk {fuel : Nat} : ∀ (b_ : Nat) {succ_1 : List (List Int)} {i_1 : Int} {seen_1 : List Bool} {out_1 : List Int} {r0_ : List Int} {m2_ : List Bool} (h : p_dyehouseref19_walk fuel succ_1 i_1 seen_1 out_1 = some (r0_, m2_)) {k2q : Nat} {v2q : IV} {k3q : Nat} {v3q : IV} {H : Heap} (ha0 : k2q ∉ [b_ + 46, b_ + 47]) (ha1 : k3q ∉ [k2q, b_ + 46, b_ + 47]) (o2q : Own [k2q] H v2q 1 (seen_1.map eBool)) (o3q : Own [k3q] H v3q 1 (out_1.map eInt)), CallW Try.prog 84 [.sim (succ_1.map (eS eInt)) false, .int .i64 i_1, v2q, v3q] H (fun rv H' => ∃ w0_ : IV, rv = (w0_ : IV) ∧ KH [b_ + 46, b_ + 47, k2q, k3q] H' H ∧ Own [k2q] H' v2q 1 (m2_.map eBool) ∧ Own [b_ + 47, k3q] H' w0_ 1 (r0_.map eInt)) := by
  induction fuel with
  | zero => intro b_ succ_1 i_1 seen_1 out_1 r0_ m2_ h k2q v2q k3q v3q H ha0 ha1 o2q o3q; simp [p_dyehouseref19_walk] at h
  | succ fuel ih =>
  intro b_ succ_1 i_1 seen_1 out_1 r0_ m2_ h k2q v2q k3q v3q H ha0 ha1 o2q o3q
  refine U_call b_ Try.func84 rfl (by kernel_rfl) (by simp [Try.ntmps84]) ?_
  rw [Try.ntmps84]
  refine U_at (fun a' H' => H = H' ∧ a'.n = 48 ∧ a'.b = b_ ∧ a'.get 0 = .sim (succ_1.map (eS eInt)) false ∧ a'.get 1 = .int .i64 i_1 ∧ a'.get 2 = v2q ∧ a'.get 3 = v3q) ⟨rfl, rfl, rfl, rfl, rfl, rfl, rfl⟩ ?_
  rintro a0 H0 ⟨rfl, hn0, hn1, e1, e2, e3, e4⟩
  rw [p_dyehouseref19_walk] at h
  have f1 := And.intro hn0 (And.intro hn1 (And.intro e1 (And.intro e2 (And.intro e3 (And.intro e4 (And.intro (apF ha0) ((apF ha1))))))))
  refine U_seq ?_
  refine U_reg ?_
  simp only [SB, f1, reduceLT, reduceEqDiff, reduceAdd, reduceLeDiff, reduceMul, Int.reduceEq]
  refine hold_intro ?_
  refine U_seq ?_
  obtain ⟨x1, kx1, h⟩ := bndO h
  obtain ⟨l1, kl1, h⟩ := bndO h
  refine U_reg ?_
  obtain ⟨w1_i, w1_r, w1_d, w1_f⟩ := Own.at (P := Try.prog) (k := .i64) o2q ty42 rfl ty4 rfl (idx_facts kx1).1 (row_map (f := eBool) kx1)
  have w1_1 := fun H1 hs => (w1_f H1 hs).1
  have w1_2 := fun H1 hs => (w1_f H1 hs).2.1
  simp only [SB, ty42, ty4, w1_1, w1_2, f1, reduceLT, reduceEqDiff, reduceAdd, reduceLeDiff, reduceMul, Int.reduceEq]
  refine putK_at w1_f (by simp only [SB, f1, reduceLT, reduceEqDiff, reduceAdd, reduceLeDiff, reduceMul, Int.reduceEq]) w1_d ty4 rfl rfl (by simp only [SB, ty42, ty4, w1_1, w1_2, reduceLT, reduceEqDiff, reduceAdd, reduceLeDiff, reduceMul, Int.reduceEq] <;> decide) (by simp only [SB, ty42, ty4, w1_1, w1_2, reduceLT, reduceEqDiff, reduceAdd, reduceLeDiff, reduceMul, Int.reduceEq]) ?_
  intro H1 o1 khH1
  replace o1 := Own.setL (f := eBool) kl1 (by simp only [SB, ty42, ty4, w1_1, w1_2, reduceLT, reduceEqDiff, reduceAdd, reduceLeDiff, reduceMul, Int.reduceEq] <;> rfl) o1
  simp only [SB, ty42, ty4, w1_1, w1_2, f1, KHF khH1, reduceLT, reduceEqDiff, reduceAdd, reduceLeDiff, reduceMul, Int.reduceEq]
  refine hold_intro ?_
  refine U_seq ?_
  refine U_seq ?_
  refine U_reg ?_
  simp only [SB, f1, KHF khH1, reduceLT, reduceEqDiff, reduceAdd, reduceLeDiff, reduceMul, Int.reduceEq]
  refine hold_intro ?_
  refine U_at (fun a' H' => Kp [8, 9] 10 a' a0 ∧ KH [k2q] H' H ∧ Own [k2q] H' v2q 1 (l1.map eBool) ∧ Own [k3q] H' v3q 1 (out_1.map eInt) ∧ a'.get 9 = .int .i64 0) ⟨by simp only [SB, f1, KHF khH1, reduceLT, reduceEqDiff, reduceAdd, reduceLeDiff, reduceMul, Int.reduceEq], by simp only [SB, f1, KHF khH1, reduceLT, reduceEqDiff, reduceAdd, reduceLeDiff, reduceMul, Int.reduceEq], (o1.same (by simp only [SB, f1, KHF khH1, reduceLT, reduceEqDiff, reduceAdd, reduceLeDiff, reduceMul, Int.reduceEq])), (o3q.same (by simp only [SB, f1, KHF khH1, reduceLT, reduceEqDiff, reduceAdd, reduceLeDiff, reduceMul, Int.reduceEq])), by simp only [SB, f1, KHF khH1, reduceLT, reduceEqDiff, reduceAdd, reduceLeDiff, reduceMul, Int.reduceEq]⟩ ?_
  rintro a1 H2 ⟨kp1, kh1, o2, o3, e5⟩
  have f2 := And.intro f1 (And.intro (KHF khH1) (And.intro (KpF kp1) (And.intro (KHF kh1) (e5))))
  obtain ⟨x2, kx2, h⟩ := bndO h
  obtain ⟨⟨seen_4, out_4⟩, he1, h⟩ := bndO h
  dsimp only at h
  obtain ⟨hhi1, hlo1, he1⟩ := toN_facts he1
  refine U_cut (fun a' H' => ∃ v2, Kp [3, 9] 10 a' a1 ∧ KH [b_ + 46, b_ + 47, k2q, k3q] H' H2 ∧ Own [k2q] H' v2q 1 (seen_4.map eBool) ∧ a'.get 2 = v2q ∧ Own [b_ + 47, k3q] H' v2 1 (out_4.map eInt) ∧ a'.get 3 = v2) (U_block (U_loop (fun y a' H' => match y with | (i1, seen_3, out_3) => forN ((x2.length : Int) - i1).toNat i1 (fun i s => p_dyehouseref19_walk_b1 fuel (p_dyehouseref19_walk fuel) succ_1 x2 i s.1 s.2) (seen_3, out_3) = some (seen_4, out_4) ∧ 0 ≤ i1 ∧ ∃ v1, Kp [3, 9] 10 a' a1 ∧ KH [b_ + 46, b_ + 47, k2q, k3q] H' H2 ∧ a'.get 9 = .int .i64 i1 ∧ Own [k2q] H' v2q 1 (seen_3.map eBool) ∧ a'.get 2 = v2q ∧ Own [b_ + 47, k3q] H' v1 1 (out_3.map eInt) ∧ a'.get 3 = v1 : (Int × (List Bool) × (List Int)) → Fr → Heap → Prop) (fun y : Int × (List Bool) × (List Int) => ((x2.length : Int) - y.1).toNat) (0, l1, out_1) ?_ ?_)) ?_
  · exact ⟨he1, Int.le_refl _, _, by simp only [SB, f2, reduceLT, reduceEqDiff, reduceAdd, reduceLeDiff, reduceMul, Int.reduceEq], by simp only [SB, f2, reduceLT, reduceEqDiff, reduceAdd, reduceLeDiff, reduceMul, Int.reduceEq], by simp only [SB, f2, reduceLT, reduceEqDiff, reduceAdd, reduceLeDiff, reduceMul, Int.reduceEq], (o2.same (by simp only [SB, f2, reduceLT, reduceEqDiff, reduceAdd, reduceLeDiff, reduceMul, Int.reduceEq])), by simp only [SB, f2, reduceLT, reduceEqDiff, reduceAdd, reduceLeDiff, reduceMul, Int.reduceEq], (Own.sub (o3.same (by simp only [SB, f2, reduceLT, reduceEqDiff, reduceAdd, reduceLeDiff, reduceMul, Int.reduceEq])) (by simp only [SB, reduceEqDiff])), by simp only [SB, f2, reduceLT, reduceEqDiff, reduceAdd, reduceLeDiff, reduceMul, Int.reduceEq]⟩
  ·
    rintro ⟨i1, seen_3, out_3⟩ a2 H3 ⟨hf2, hl1, v1, kp2, kh2, e10, o4, e6, o5, e7⟩
    by_cases hlt1 : i1 < (x2.length : Int)
    ·
      obtain ⟨u2, hr1, hl2⟩ := forN_step hf2 hlt1
      replace hr1 : p_dyehouseref19_walk_b1 fuel (p_dyehouseref19_walk fuel) succ_1 x2 i1 seen_3 out_3 = some u2 := hr1
      unfold p_dyehouseref19_walk_b1 at hr1
      have hw1 := wrap_next hlt1 hhi1 hlo1 hl1
      have hlt1_t : decide (i1 < (x2.length : Int)) = true := decide_eq_true hlt1
      have f3 := And.intro f2 (And.intro e6 (And.intro e7 (And.intro (KpF kp2) (And.intro (KHF kh2) (And.intro e10 (And.intro hw1 (hlt1_t)))))))
      refine U_seq (U_seq ?_)
      refine U_reg ?_
      simp only [SB, ty31, ty37, iia_sim (f := eS eInt) ty31 rfl ty37 kx2 rfl, row_sim (f := eS eInt) kx2, len_sim ty37 rfl, f3, reduceLT, reduceEqDiff, reduceAdd, reduceLeDiff, reduceMul, Int.reduceEq]
      refine hold_intro ?_
      refine U_condT (by simp only [SB, f3, ty31, ty37, iia_sim (f := eS eInt) ty31 rfl ty37 kx2 rfl, row_sim (f := eS eInt) kx2, len_sim ty37 rfl, reduceLT, reduceEqDiff, reduceAdd, reduceLeDiff, reduceMul, Int.reduceEq]) (U_skip ?_)
      refine U_seq ?_
      refine U_block ?_
      refine U_seq ?_
      obtain ⟨x3, kx3, hr1⟩ := bndO hr1
      obtain ⟨x4, kx4, hr1⟩ := bndO hr1
      refine U_reg ?_
      obtain ⟨w2_i, w2_r, w2_d, w2_f⟩ := Own.at (P := Try.prog) (k := .i64) o4 ty42 rfl ty4 rfl (idx_facts kx4).1 (row_map (f := eBool) kx4)
      have w2_1 := fun H1 hs => (w2_f H1 hs).1
      have w2_2 := fun H1 hs => (w2_f H1 hs).2.1
      simp only [SB, ty31, ty37, iia_sim (f := eS eInt) ty31 rfl ty37 kx2 rfl, row_sim (f := eS eInt) kx2, ty3, iia_sim (f := eInt) ty37 rfl ty3 kx3 rfl, row_sim (f := eInt) kx3, ty42, ty4, w2_1, w2_2, f3, reduceLT, reduceEqDiff, reduceAdd, reduceLeDiff, reduceMul, Int.reduceEq]
      refine hold_intro ?_
      rcases Bool.eq_false_or_eq_true ((!x4)) with hb1 | hb1
      ·
        rw [if_pos hb1] at hr1
        refine U_condT (by simp only [SB, f3, hb1, ty31, ty37, iia_sim (f := eS eInt) ty31 rfl ty37 kx2 rfl, row_sim (f := eS eInt) kx2, ty3, iia_sim (f := eInt) ty37 rfl ty3 kx3 rfl, row_sim (f := eInt) kx3, ty42, ty4, w2_1, w2_2, reduceLT, reduceEqDiff, reduceAdd, reduceLeDiff, reduceMul, Int.reduceEq]) ?_
        refine U_at (fun a' H' => Kp [] 10 a' a2 ∧ H3 = H' ∧ Own [k2q] H' v2q 1 (seen_3.map eBool) ∧ Own [b_ + 47, k3q] H' v1 1 (out_3.map eInt) ∧ a'.get 32 = .bool (!x4)) ⟨by simp only [SB, f3, hb1, reduceLT, reduceEqDiff, reduceAdd, reduceLeDiff, reduceMul, Int.reduceEq], rfl, (o4.same (by simp only [SB, f3, hb1, reduceLT, reduceEqDiff, reduceAdd, reduceLeDiff, reduceMul, Int.reduceEq])), (o5.same (by simp only [SB, f3, hb1, reduceLT, reduceEqDiff, reduceAdd, reduceLeDiff, reduceMul, Int.reduceEq])), by simp only [SB, f3, hb1, ty31, ty37, iia_sim (f := eS eInt) ty31 rfl ty37 kx2 rfl, row_sim (f := eS eInt) kx2, ty3, iia_sim (f := eInt) ty37 rfl ty3 kx3 rfl, row_sim (f := eInt) kx3, ty42, ty4, w2_1, w2_2, reduceLT, reduceEqDiff, reduceAdd, reduceLeDiff, reduceMul, Int.reduceEq]⟩ ?_
        rintro a3 H4 ⟨kp3, rfl, o8, o9, e11⟩
        have f4 := And.intro f3 (And.intro hb1 (And.intro (KpF kp3) (e11)))
        refine U_renS (D := [b_ + 47, k3q]) 3 (k3q) (o9.same (by simp only [SB, f4, reduceLT, reduceEqDiff, reduceAdd, reduceLeDiff, reduceMul, Int.reduceEq])) (by simp only [SB, f4, reduceLT, reduceEqDiff, reduceAdd, reduceLeDiff, reduceMul, Int.reduceEq]) ?_
        intro v3 H5 o10 kh3
        refine U_at (fun a' H' => Kp [3] 10 a' a3 ∧ KH [b_ + 47, k3q] H' H3 ∧ Own [k2q] H' v2q 1 (seen_3.map eBool) ∧ Own [k3q] H' v3 1 (out_3.map eInt) ∧ a'.get 3 = v3) ⟨by simp only [SB, f4, KHF kh3, reduceLT, reduceEqDiff, reduceAdd, reduceLeDiff, reduceMul, Int.reduceEq], by simp only [SB, f4, KHF kh3, reduceLT, reduceEqDiff, reduceAdd, reduceLeDiff, reduceMul, Int.reduceEq], (o8.same (by simp only [SB, f4, KHF kh3, reduceLT, reduceEqDiff, reduceAdd, reduceLeDiff, reduceMul, Int.reduceEq])), (o10.same (by simp only [SB, f4, KHF kh3, reduceLT, reduceEqDiff, reduceAdd, reduceLeDiff, reduceMul, Int.reduceEq])), by simp only [SB, f4, KHF kh3, ty31, ty37, iia_sim (f := eS eInt) ty31 rfl ty37 kx2 rfl, row_sim (f := eS eInt) kx2, ty3, iia_sim (f := eInt) ty37 rfl ty3 kx3 rfl, row_sim (f := eInt) kx3, ty42, ty4, w2_1, w2_2, reduceLT, reduceEqDiff, reduceAdd, reduceLeDiff, reduceMul, Int.reduceEq]⟩ ?_
        rintro a4 H6 ⟨kp4, kh4, o11, o12, e12⟩
        have f5 := And.intro f4 (And.intro (KHF kh3) (And.intro (KpF kp4) (And.intro (KHF kh4) (e12))))
        obtain ⟨⟨r1, m1⟩, kr1, hr1⟩ := bndO hr1
        dsimp only at hr1
        refine U_reg ?_
        simp only [SB, ty31, ty37, iia_sim (f := eS eInt) ty31 rfl ty37 kx2 rfl, row_sim (f := eS eInt) kx2, ty3, iia_sim (f := eInt) ty37 rfl ty3 kx3 rfl, row_sim (f := eInt) kx3, f5, reduceLT, reduceEqDiff, reduceAdd, reduceLeDiff, reduceMul, Int.reduceEq]
        refine callH (ih (b_ + 0) (k2q := k2q) (v2q := v2q) (k3q := k3q) (v3q := v3) kr1 (by simp only [SB, f5, reduceLT, reduceEqDiff, reduceAdd, reduceLeDiff, reduceMul, Int.reduceEq]) (by simp only [SB, f5, reduceLT, reduceEqDiff, reduceAdd, reduceLeDiff, reduceMul, Int.reduceEq]) (o11.same (by simp only [SB, f5, reduceLT, reduceEqDiff, reduceAdd, reduceLeDiff, reduceMul, Int.reduceEq])) (o12.same (by simp only [SB, f5, reduceLT, reduceEqDiff, reduceAdd, reduceLeDiff, reduceMul, Int.reduceEq]))) ?_
        rintro v5 H7 ⟨_, rfl, kh5, o13, o14⟩
        try simp only [Nat.add_assoc, reduceAdd] at kh5 o13 o14
        try simp only [Nat.add_assoc, reduceAdd]
        simp only [SB, ty31, ty37, iia_sim (f := eS eInt) ty31 rfl ty37 kx2 rfl, row_sim (f := eS eInt) kx2, ty3, iia_sim (f := eInt) ty37 rfl ty3 kx3 rfl, row_sim (f := eInt) kx3, f5, KHF kh5, reduceLT, reduceEqDiff, reduceAdd, reduceLeDiff, reduceMul, Int.reduceEq]
        refine hold_intro ?_
        refine U_reg ?_
        simp only [SB, f5, KHF kh5, reduceLT, reduceEqDiff, reduceAdd, reduceLeDiff, reduceMul, Int.reduceEq]
        refine hold_intro ?_
        replace hr1 := Option.some.inj hr1
        subst hr1
        refine ⟨(i1 + 1, m1, r1), ?_, hl2, Int.le_add_one hl1, _, by simp only [SB, f5, KHF kh5, reduceLT, reduceEqDiff, reduceAdd, reduceLeDiff, reduceMul, Int.reduceEq], by simp only [SB, f5, KHF kh5, reduceLT, reduceEqDiff, reduceAdd, reduceLeDiff, reduceMul, Int.reduceEq], by simp only [SB, f5, KHF kh5, reduceLT, reduceEqDiff, reduceAdd, reduceLeDiff, reduceMul, Int.reduceEq], (o13.same (by simp only [SB, f5, KHF kh5, reduceLT, reduceEqDiff, reduceAdd, reduceLeDiff, reduceMul, Int.reduceEq])), by simp only [SB, f5, KHF kh5, reduceLT, reduceEqDiff, reduceAdd, reduceLeDiff, reduceMul, Int.reduceEq], (o14.same (by simp only [SB, f5, KHF kh5, reduceLT, reduceEqDiff, reduceAdd, reduceLeDiff, reduceMul, Int.reduceEq])), by simp only [SB, f5, KHF kh5, reduceLT, reduceEqDiff, reduceAdd, reduceLeDiff, reduceMul, Int.reduceEq]⟩
        show ((x2.length : Int) - (i1 + 1)).toNat < ((x2.length : Int) - i1).toNat; omega
      ·
        rw [if_neg (by rw [hb1]; decide)] at hr1
        refine U_condF (by simp only [SB, f3, hb1, ty31, ty37, iia_sim (f := eS eInt) ty31 rfl ty37 kx2 rfl, row_sim (f := eS eInt) kx2, ty3, iia_sim (f := eInt) ty37 rfl ty3 kx3 rfl, row_sim (f := eInt) kx3, ty42, ty4, w2_1, w2_2, reduceLT, reduceEqDiff, reduceAdd, reduceLeDiff, reduceMul, Int.reduceEq]) ?_
        refine U_skip ?_
        refine U_reg ?_
        simp only [SB, f3, hb1, reduceLT, reduceEqDiff, reduceAdd, reduceLeDiff, reduceMul, Int.reduceEq]
        refine hold_intro ?_
        replace hr1 := Option.some.inj hr1
        subst hr1
        refine ⟨(i1 + 1, seen_3, out_3), ?_, hl2, Int.le_add_one hl1, _, by simp only [SB, f3, hb1, reduceLT, reduceEqDiff, reduceAdd, reduceLeDiff, reduceMul, Int.reduceEq], by simp only [SB, f3, hb1, reduceLT, reduceEqDiff, reduceAdd, reduceLeDiff, reduceMul, Int.reduceEq], by simp only [SB, f3, hb1, reduceLT, reduceEqDiff, reduceAdd, reduceLeDiff, reduceMul, Int.reduceEq], (o4.same (by simp only [SB, f3, hb1, reduceLT, reduceEqDiff, reduceAdd, reduceLeDiff, reduceMul, Int.reduceEq])), by simp only [SB, f3, hb1, reduceLT, reduceEqDiff, reduceAdd, reduceLeDiff, reduceMul, Int.reduceEq], (o5.same (by simp only [SB, f3, hb1, reduceLT, reduceEqDiff, reduceAdd, reduceLeDiff, reduceMul, Int.reduceEq])), by simp only [SB, f3, hb1, reduceLT, reduceEqDiff, reduceAdd, reduceLeDiff, reduceMul, Int.reduceEq]⟩
        show ((x2.length : Int) - (i1 + 1)).toNat < ((x2.length : Int) - i1).toNat; omega
    ·
      have hlt1_e := forN_end hf2 hlt1
      have hlt1_t : decide (i1 < (x2.length : Int)) = false := decide_eq_false hlt1
      have f6 := And.intro f2 (And.intro e6 (And.intro e7 (And.intro (KpF kp2) (And.intro (KHF kh2) (And.intro e10 (hlt1_t))))))
      refine U_seq (U_seq ?_)
      refine U_reg ?_
      simp only [SB, ty31, ty37, iia_sim (f := eS eInt) ty31 rfl ty37 kx2 rfl, row_sim (f := eS eInt) kx2, len_sim ty37 rfl, f6, reduceLT, reduceEqDiff, reduceAdd, reduceLeDiff, reduceMul, Int.reduceEq]
      refine hold_intro ?_
      refine U_condF (by simp only [SB, f6, ty31, ty37, iia_sim (f := eS eInt) ty31 rfl ty37 kx2 rfl, row_sim (f := eS eInt) kx2, len_sim ty37 rfl, reduceLT, reduceEqDiff, reduceAdd, reduceLeDiff, reduceMul, Int.reduceEq]) (U_exit rfl ?_)
      cases hlt1_e
      exact ⟨_, by simp only [SB, f6, reduceLT, reduceEqDiff, reduceAdd, reduceLeDiff, reduceMul, Int.reduceEq], by simp only [SB, f6, reduceLT, reduceEqDiff, reduceAdd, reduceLeDiff, reduceMul, Int.reduceEq], (o4.same (by simp only [SB, f6, reduceLT, reduceEqDiff, reduceAdd, reduceLeDiff, reduceMul, Int.reduceEq])), by simp only [SB, f6, ty31, ty37, iia_sim (f := eS eInt) ty31 rfl ty37 kx2 rfl, row_sim (f := eS eInt) kx2, len_sim ty37 rfl, reduceLT, reduceEqDiff, reduceAdd, reduceLeDiff, reduceMul, Int.reduceEq], (o5.same (by simp only [SB, f6, reduceLT, reduceEqDiff, reduceAdd, reduceLeDiff, reduceMul, Int.reduceEq])), by simp only [SB, f6, ty31, ty37, iia_sim (f := eS eInt) ty31 rfl ty37 kx2 rfl, row_sim (f := eS eInt) kx2, len_sim ty37 rfl, reduceLT, reduceEqDiff, reduceAdd, reduceLeDiff, reduceMul, Int.reduceEq]⟩
  ·
    rintro a5 H8 ⟨v6, kp5, kh6, o15, e13, o16, e14⟩
    have f7 := And.intro f2 (And.intro e13 (And.intro e14 (And.intro (KpF kp5) ((KHF kh6)))))
    refine U_seq ?_
    obtain ⟨l2, kl2, h⟩ := bndO h
    refine U_reg ?_
    simp only [SB, ty37, ty3, f7, reduceLT, reduceEqDiff, reduceAdd, reduceLeDiff, reduceMul, Int.reduceEq]
    refine Own.appL (f := eInt) (xs := out_4) (ys := [i_1]) (D := [b_ + 47, k3q]) (Own.sub (o16.same (by simp only [SB, f7, reduceLT, reduceEqDiff, reduceAdd, reduceLeDiff, reduceMul, Int.reduceEq])) (by simp only [SB, reduceEqDiff])) (by simp only [put_b, f7, reduceLT, reduceEqDiff, reduceAdd, reduceLeDiff, reduceMul, Int.reduceEq]) (by simp only [SB, reduceEqDiff]) ty37 rfl ty37 rfl ty3 rfl rfl rfl (by decide) (by simp only [srows_sb, SB, ty37, ty3, f7, reduceLT, reduceEqDiff, reduceAdd, reduceLeDiff, reduceMul, Int.reduceEq] <;> rfl) cl_eInt kl2 ?_
    intro v7 H9 o18 kh7
    simp only [SB, ty37, ty3, f7, KHF kh7, reduceLT, reduceEqDiff, reduceAdd, reduceLeDiff, reduceMul, Int.reduceEq]
    refine hold_intro ?_
    refine U_ret ?_
    replace h := Option.some.inj h
    obtain ⟨q1, q2⟩ := Prod.mk.inj h
    clear h
    subst q1
    subst q2
    refine ⟨v7, by simp only [ires, iress, Try.results84, SB, List.toList_toArray, ty37, ty3, f7, KHF kh7, reduceLT, reduceEqDiff, reduceAdd, reduceLeDiff, reduceMul, Int.reduceEq], ?_⟩
    exact ⟨v7, rfl, by simp only [SB, f7, KHF kh7, reduceLT, reduceEqDiff, reduceAdd, reduceLeDiff, reduceMul, Int.reduceEq], (o15.same (by simp only [SB, f7, KHF kh7, reduceLT, reduceEqDiff, reduceAdd, reduceLeDiff, reduceMul, Int.reduceEq])), (Own.sub (D := [b_ + 47, k3q]) (o18.same (by simp only [SB, f7, KHF kh7, reduceLT, reduceEqDiff, reduceAdd, reduceLeDiff, reduceMul, Int.reduceEq])) (by simp only [SB, reduceEqDiff]))⟩

theorem w_dyehouseref19_Order {fuel : Nat} {succ_1 : List (List Int)} {r0_ : List Int} (h : p_dyehouseref19_Order fuel succ_1 = some r0_) : Pure1 Try.prog 28 [.sim (succ_1.map (eS eInt)) false] (.sim (r0_.map eInt) false) := by
  refine Pure1_fz (all_cl (cl_map (cl_eS cl_eInt) _) all_cl0) ?_
  refine U_call 0 Try.func28 rfl (by kernel_rfl) (by simp [Try.ntmps28]) ?_
  rw [Try.ntmps28]
  refine U_at (fun a' H' => a'.n = 29 ∧ a'.b = 0 ∧ a'.get 0 = .sim (succ_1.map (eS eInt)) false) ⟨rfl, rfl, rfl⟩ ?_
  rintro a0 H0 ⟨hn0, hn1, e1⟩
  unfold p_dyehouseref19_Order at h
  have f1 := And.intro hn0 (And.intro hn1 (e1))
  refine U_seq ?_
  refine U_reg ?_
  simp only [SB, f1, reduceLT, reduceEqDiff, reduceAdd, reduceLeDiff, reduceMul, Int.reduceEq]
  refine hold_intro ?_
  refine U_seq ?_
  refine U_seq ?_
  refine U_reg ?_
  simp only [SB, len_sim ty31 rfl, f1, reduceLT, reduceEqDiff, reduceAdd, reduceLeDiff, reduceMul, Int.reduceEq]
  refine hold_intro ?_
  rcases Bool.eq_false_or_eq_true (decide ((succ_1.length : Int) = 0)) with hb1 | hb1
  ·
    rw [if_pos hb1] at h
    refine U_condT (by simp only [SB, f1, hb1, len_sim ty31 rfl, reduceLT, reduceEqDiff, reduceAdd, reduceLeDiff, reduceMul, Int.reduceEq]) ?_
    refine U_seq ?_
    refine U_reg ?_
    simp only [SB, f1, hb1, reduceLT, reduceEqDiff, reduceAdd, reduceLeDiff, reduceMul, Int.reduceEq]
    refine hold_intro ?_
    refine U_ret ?_
    replace h := Option.some.inj h
    subst h
    refine ⟨.nils, by simp only [ires, iress, Try.results28, SB, List.toList_toArray, f1, hb1, reduceLT, reduceEqDiff, reduceAdd, reduceLeDiff, reduceMul, Int.reduceEq], ?_⟩
    exact .nils
  ·
    rw [if_neg (by rw [hb1]; decide)] at h
    refine U_condF (by simp only [SB, f1, hb1, len_sim ty31 rfl, reduceLT, reduceEqDiff, reduceAdd, reduceLeDiff, reduceMul, Int.reduceEq]) ?_
    refine U_skip ?_
    refine U_seq ?_
    obtain ⟨l1, kl1, h⟩ := bndO h
    obtain ⟨⟨r1, m1⟩, kr1, h⟩ := bndO h
    dsimp only at h
    refine U_reg ?_
    simp only [SB, len_sim ty31 rfl, ty42, ty4, imk_some (d := 12) (f := eBool) ty42 rfl ty4 rfl rfl (by decide) kl1, f1, hb1, reduceLT, reduceEqDiff, reduceAdd, reduceLeDiff, reduceMul, Int.reduceEq]
    refine callH (w_dyehouseref19_walk (39) (k2q := 12) (v2q := .sb ⟨12, H0.next (12)⟩ 0 l1.length true) (k3q := 107) (v3q := .nils) kr1 (by simp only [SB, f1, hb1, reduceLT, reduceEqDiff, reduceAdd, reduceLeDiff, reduceMul, Int.reduceEq]) (by simp only [SB, f1, hb1, reduceLT, reduceEqDiff, reduceAdd, reduceLeDiff, reduceMul, Int.reduceEq]) (Own.mk (id := ⟨12, H0.next (12)⟩) (by simp only [SB, reduceEqDiff]) (by simp only [SB]) (by simp only [SB, f1, hb1, reduceLT, reduceEqDiff, reduceAdd, reduceLeDiff, reduceMul, Int.reduceEq] <;> rfl)) Own.nil) ?_
    rintro v2 H1 ⟨_, rfl, kh1, o1, o2⟩
    try simp only [Nat.add_assoc, reduceAdd] at kh1 o1 o2
    try simp only [Nat.add_assoc, reduceAdd]
    simp only [SB, len_sim ty31 rfl, ty42, ty4, imk_some (d := 12) (f := eBool) ty42 rfl ty4 rfl rfl (by decide) kl1, f1, hb1, KHF kh1, reduceLT, reduceEqDiff, reduceAdd, reduceLeDiff, reduceMul, Int.reduceEq]
    refine hold_intro ?_
    refine U_seq ?_
    refine U_reg ?_
    simp only [SB, f1, hb1, KHF kh1, reduceLT, reduceEqDiff, reduceAdd, reduceLeDiff, reduceMul, Int.reduceEq]
    refine hold_intro ?_
    refine U_seq ?_
    refine U_seq ?_
    refine U_reg ?_
    simp only [SB, Own.len (P := Try.prog) o2 ty37 rfl, ty37, f1, hb1, KHF kh1, reduceLT, reduceEqDiff, reduceAdd, reduceLeDiff, reduceMul, Int.reduceEq]
    refine hold_intro ?_
    refine U_at (fun a' H' => Kp [2, 3, 4, 5] 6 a' a0 ∧ KH [107, 12, 85, 86] H' H0 ∧ Own [86, 107] H' v2 1 (r1.map eInt) ∧ a'.get 3 = v2 ∧ a'.get 4 = .nils ∧ a'.get 5 = .int .i64 (IntKind.wrap .i64 ((r1.length : Int) - 1)) ∧ a'.get 8 = .bool (decide ((succ_1.length : Int) = 0))) ⟨by simp only [SB, f1, hb1, KHF kh1, reduceLT, reduceEqDiff, reduceAdd, reduceLeDiff, reduceMul, Int.reduceEq], by simp only [SB, f1, hb1, KHF kh1, reduceLT, reduceEqDiff, reduceAdd, reduceLeDiff, reduceMul, Int.reduceEq], (o2.same (by simp only [SB, f1, hb1, KHF kh1, reduceLT, reduceEqDiff, reduceAdd, reduceLeDiff, reduceMul, Int.reduceEq])), by simp only [SB, f1, hb1, KHF kh1, Own.len (P := Try.prog) o2 ty37 rfl, ty37, reduceLT, reduceEqDiff, reduceAdd, reduceLeDiff, reduceMul, Int.reduceEq], by simp only [SB, f1, hb1, KHF kh1, Own.len (P := Try.prog) o2 ty37 rfl, ty37, reduceLT, reduceEqDiff, reduceAdd, reduceLeDiff, reduceMul, Int.reduceEq], by simp only [SB, f1, hb1, KHF kh1, Own.len (P := Try.prog) o2 ty37 rfl, ty37, reduceLT, reduceEqDiff, reduceAdd, reduceLeDiff, reduceMul, Int.reduceEq], by simp only [SB, f1, hb1, KHF kh1, Own.len (P := Try.prog) o2 ty37 rfl, ty37, reduceLT, reduceEqDiff, reduceAdd, reduceLeDiff, reduceMul, Int.reduceEq]⟩ ?_
    rintro a1 H2 ⟨kp1, kh2, o3, e2, e3, e4, e5⟩
    have f2 := And.intro f1 (And.intro hb1 (And.intro (KHF kh1) (And.intro (KpF kp1) (And.intro (KHF kh2) (And.intro e2 (And.intro e3 (And.intro e4 (e5))))))))
    obtain ⟨u1, he1, h⟩ := bndE h
    refine U_cut (fun a' H' => ∃ out_2 : List Int, ∃ i_2 : Int, u1 = .n (out_2, i_2) ∧ ∃ v3, Kp [4, 5] 6 a' a1 ∧ KH [26, 27] H' H2 ∧ Own [27] H' v3 1 (out_2.map eInt) ∧ a'.get 4 = v3 ∧ a'.get 5 = .int .i64 i_2) (U_block (U_loop (fun y a' H' => match y with | (m2, out_2, i_2) => loopE m2 (fun s => p_dyehouseref19_Order_b1 fuel r1 s.1 s.2) (out_2, i_2) = some u1 ∧ ∃ v3, Kp [4, 5] 6 a' a1 ∧ KH [26, 27] H' H2 ∧ Own [27] H' v3 1 (out_2.map eInt) ∧ a'.get 4 = v3 ∧ a'.get 5 = .int .i64 i_2 : (Nat × (List Int) × Int) → Fr → Heap → Prop) (fun y : Nat × (List Int) × Int => y.1) (fuel, [], IntKind.wrap .i64 ((r1.length : Int) - 1)) ?_ ?_)) ?_
    · exact ⟨he1, _, by simp only [SB, f2, reduceLT, reduceEqDiff, reduceAdd, reduceLeDiff, reduceMul, Int.reduceEq], by simp only [SB, f2, reduceLT, reduceEqDiff, reduceAdd, reduceLeDiff, reduceMul, Int.reduceEq], Own.nil, by simp only [SB, f2, Own.len (P := Try.prog) o2 ty37 rfl, ty37, reduceLT, reduceEqDiff, reduceAdd, reduceLeDiff, reduceMul, Int.reduceEq], by simp only [SB, f2, Own.len (P := Try.prog) o2 ty37 rfl, ty37, reduceLT, reduceEqDiff, reduceAdd, reduceLeDiff, reduceMul, Int.reduceEq]⟩
    ·
      rintro ⟨m2, out_2, i_2⟩ a2 H3 ⟨hf2, v3, kp2, kh3, o4, e6, e7⟩
      obtain ⟨m2', m2_lt, u2, hr1, hl2⟩ := loopE_step hf2
      replace hr1 : p_dyehouseref19_Order_b1 fuel r1 out_2 i_2 = some u2 := hr1
      unfold p_dyehouseref19_Order_b1 at hr1
      have f3 := And.intro f2 (And.intro e6 (And.intro e7 (And.intro (KpF kp2) ((KHF kh3)))))
      refine U_seq ?_
      refine U_seq ?_
      refine U_reg ?_
      simp only [SB, f3, reduceLT, reduceEqDiff, reduceAdd, reduceLeDiff, reduceMul, Int.reduceEq]
      refine hold_intro ?_
      rcases Bool.eq_false_or_eq_true (decide (0 ≤ i_2)) with hb2 | hb2
      ·
        rw [if_pos hb2] at hr1
        refine U_condT (by simp only [SB, f3, hb2, reduceLT, reduceEqDiff, reduceAdd, reduceLeDiff, reduceMul, Int.reduceEq]) ?_
        refine U_skip ?_
        refine U_seq ?_
        refine U_block ?_
        obtain ⟨x1, kx1, hr1⟩ := bndO hr1
        obtain ⟨l2, kl2, hr1⟩ := bndO hr1
        refine U_reg ?_
        obtain ⟨w1_i, w1_r, w1_d, w1_f⟩ := Own.at (P := Try.prog) (k := .i64) o3 ty37 rfl ty3 rfl (idx_facts kx1).1 (row_map (f := eInt) kx1)
        have w1_1 := fun H1 hs => (w1_f H1 hs).1
        have w1_2 := fun H1 hs => (w1_f H1 hs).2.1
        simp only [SB, ty37, ty3, w1_1, w1_2, f3, hb2, reduceLT, reduceEqDiff, reduceAdd, reduceLeDiff, reduceMul, Int.reduceEq]
        refine Own.appL (f := eInt) (xs := out_2) (ys := [x1]) (D := [27]) (Own.sub (o4.same (by simp only [SB, f3, hb2, reduceLT, reduceEqDiff, reduceAdd, reduceLeDiff, reduceMul, Int.reduceEq])) (by simp only [SB, reduceEqDiff])) (by simp only [put_b, f3, hb2, reduceLT, reduceEqDiff, reduceAdd, reduceLeDiff, reduceMul, Int.reduceEq]) (by simp only [SB, reduceEqDiff]) ty37 rfl ty37 rfl ty3 rfl rfl rfl (by decide) (by simp only [srows_sb, SB, ty37, ty3, w1_1, w1_2, f3, hb2, reduceLT, reduceEqDiff, reduceAdd, reduceLeDiff, reduceMul, Int.reduceEq] <;> rfl) cl_eInt kl2 ?_
        intro v4 H4 o6 kh4
        simp only [SB, ty37, ty3, w1_1, w1_2, f3, hb2, KHF kh4, reduceLT, reduceEqDiff, reduceAdd, reduceLeDiff, reduceMul, Int.reduceEq]
        refine hold_intro ?_
        refine U_reg ?_
        simp only [SB, f3, hb2, KHF kh4, reduceLT, reduceEqDiff, reduceAdd, reduceLeDiff, reduceMul, Int.reduceEq]
        refine hold_intro ?_
        replace hr1 := Option.some.inj hr1
        subst hr1
        exact ⟨(m2', l2, IntKind.wrap .i64 (i_2 - 1)), m2_lt, hl2, _, by simp only [SB, f3, hb2, KHF kh4, reduceLT, reduceEqDiff, reduceAdd, reduceLeDiff, reduceMul, Int.reduceEq], by simp only [SB, f3, hb2, KHF kh4, reduceLT, reduceEqDiff, reduceAdd, reduceLeDiff, reduceMul, Int.reduceEq], (o6.same (by simp only [SB, f3, hb2, KHF kh4, reduceLT, reduceEqDiff, reduceAdd, reduceLeDiff, reduceMul, Int.reduceEq])), by simp only [SB, f3, hb2, KHF kh4, reduceLT, reduceEqDiff, reduceAdd, reduceLeDiff, reduceMul, Int.reduceEq], by simp only [SB, f3, hb2, KHF kh4, reduceLT, reduceEqDiff, reduceAdd, reduceLeDiff, reduceMul, Int.reduceEq]⟩
      ·
        rw [if_neg (by rw [hb2]; decide)] at hr1
        refine U_condF (by simp only [SB, f3, hb2, reduceLT, reduceEqDiff, reduceAdd, reduceLeDiff, reduceMul, Int.reduceEq]) ?_
        refine U_exit rfl ?_
        replace hr1 := Option.some.inj hr1
        subst hr1
        exact ⟨_, _, hl2, _, by simp only [SB, f3, hb2, reduceLT, reduceEqDiff, reduceAdd, reduceLeDiff, reduceMul, Int.reduceEq], by simp only [SB, f3, hb2, reduceLT, reduceEqDiff, reduceAdd, reduceLeDiff, reduceMul, Int.reduceEq], (o4.same (by simp only [SB, f3, hb2, reduceLT, reduceEqDiff, reduceAdd, reduceLeDiff, reduceMul, Int.reduceEq])), by simp only [SB, f3, hb2, reduceLT, reduceEqDiff, reduceAdd, reduceLeDiff, reduceMul, Int.reduceEq], by simp only [SB, f3, hb2, reduceLT, reduceEqDiff, reduceAdd, reduceLeDiff, reduceMul, Int.reduceEq]⟩
    ·
      rintro a3 H5 ⟨out_3, i_3, rfl, v5, kp3, kh5, o7, e9, e10⟩
      replace h := outE_n h
      dsimp only at h
      have f4 := And.intro f2 (And.intro e9 (And.intro e10 (And.intro (KpF kp3) ((KHF kh5)))))
      refine U_seq ?_
      refine U_reg ?_
      simp only [SB, f4, reduceLT, reduceEqDiff, reduceAdd, reduceLeDiff, reduceMul, Int.reduceEq]
      refine hold_intro ?_
      refine U_ret ?_
      replace h := Option.some.inj h
      subst h
      refine ⟨v5, by simp only [ires, iress, Try.results28, SB, List.toList_toArray, f4, reduceLT, reduceEqDiff, reduceAdd, reduceLeDiff, reduceMul, Int.reduceEq], ?_⟩
      exact ((o7.same (by simp only [SB, f4, reduceLT, reduceEqDiff, reduceAdd, reduceLeDiff, reduceMul, Int.reduceEq]))).fz (cls cl_eInt _)

theorem w_dyehouselaw19_GraphTells {fuel : Nat} {f_1 : Fnc} {i_1 : Int} {r0_ : Bool} (h : p_dyehouselaw19_GraphTells fuel f_1 i_1 = some r0_) : Pure1 Try.prog 3 [.agg (eFnc f_1), .int .i64 i_1] (.bool r0_) := by
  refine Pure1_fz (all_cl (cl_agg (cl_eFnc _)) (all_cl (closed_int _ _) all_cl0)) ?_
  refine U_call 0 Try.func3 rfl (by kernel_rfl) (by simp [Try.ntmps3]) ?_
  rw [Try.ntmps3]
  refine U_at (fun a' H' => a'.n = 144 ∧ a'.b = 0 ∧ a'.get 0 = .agg (eFnc f_1) ∧ a'.get 1 = .int .i64 i_1) ⟨rfl, rfl, rfl, rfl⟩ ?_
  rintro a0 H0 ⟨hn0, hn1, e1, e2⟩
  unfold p_dyehouselaw19_GraphTells at h
  have f1 := And.intro hn0 (And.intro hn1 (And.intro e1 (e2)))
  refine U_seq ?_
  refine U_reg ?_
  simp only [SB, ty26, sFnc, f1, reduceLT, reduceEqDiff, reduceAdd, reduceLeDiff, reduceMul, Int.reduceEq]
  refine hold_intro ?_
  refine U_seq ?_
  refine U_seq ?_
  obtain ⟨r1, kr1, h⟩ := bndO h
  refine U_reg ?_
  simp only [SB, ty26, sFnc, f1, reduceLT, reduceEqDiff, reduceAdd, reduceLeDiff, reduceMul, Int.reduceEq]
  refine callP (w_dyehouseref12_Large kr1) ?_
  simp only [SB, ty26, sFnc, f1, reduceLT, reduceEqDiff, reduceAdd, reduceLeDiff, reduceMul, Int.reduceEq]
  refine hold_intro ?_
  rcases Bool.eq_false_or_eq_true (r1) with hb1 | hb1
  ·
    rw [if_pos hb1] at h
    refine U_condT (by simp only [SB, f1, hb1, ty26, sFnc, reduceLT, reduceEqDiff, reduceAdd, reduceLeDiff, reduceMul, Int.reduceEq]) ?_
    refine U_seq ?_
    obtain ⟨r2, kr2, h⟩ := bndO h
    refine U_reg ?_
    simp only [SB, f1, hb1, reduceLT, reduceEqDiff, reduceAdd, reduceLeDiff, reduceMul, Int.reduceEq]
    refine callP (w_dyehouselaw19_works kr2) ?_
    simp only [SB, f1, hb1, reduceLT, reduceEqDiff, reduceAdd, reduceLeDiff, reduceMul, Int.reduceEq]
    refine hold_intro ?_
    refine U_ret ?_
    replace h := Option.some.inj h
    subst h
    refine ⟨.bool r2, by simp only [ires, iress, Try.results3, SB, List.toList_toArray, f1, hb1, reduceLT, reduceEqDiff, reduceAdd, reduceLeDiff, reduceMul, Int.reduceEq], ?_⟩
    exact .cl (closed_bool _)
  ·
    rw [if_neg (by rw [hb1]; decide)] at h
    refine U_condF (by simp only [SB, f1, hb1, ty26, sFnc, reduceLT, reduceEqDiff, reduceAdd, reduceLeDiff, reduceMul, Int.reduceEq]) ?_
    refine U_skip ?_
    refine U_seq ?_
    obtain ⟨r3, kr3, h⟩ := bndO h
    refine U_reg ?_
    simp only [SB, ty26, sFnc, f1, hb1, reduceLT, reduceEqDiff, reduceAdd, reduceLeDiff, reduceMul, Int.reduceEq]
    refine callP (w_graph_New kr3) ?_
    simp only [SB, ty26, sFnc, f1, hb1, reduceLT, reduceEqDiff, reduceAdd, reduceLeDiff, reduceMul, Int.reduceEq]
    refine hold_intro ?_
    refine U_seq ?_
    obtain ⟨r4, kr4, h⟩ := bndO h
    refine U_reg ?_
    simp only [SB, ty26, sFnc, f1, hb1, reduceLT, reduceEqDiff, reduceAdd, reduceLeDiff, reduceMul, Int.reduceEq]
    refine callP (w_dyehouseref19_Succ kr4) ?_
    simp only [SB, ty26, sFnc, f1, hb1, reduceLT, reduceEqDiff, reduceAdd, reduceLeDiff, reduceMul, Int.reduceEq]
    refine hold_intro ?_
    refine U_seq ?_
    refine U_seq ?_
    refine U_at (fun a' H' => Kp [2, 4, 5, 6] 13 a' a0 ∧ KH [2] H' H0 ∧ a'.get 14 = .bool r1 ∧ a'.get 5 = .pim [egraph_Graph r3] 0 0 ∧ a'.get 6 = .sim (r4.map (eS eInt)) false) ⟨by simp only [SB, f1, hb1, reduceLT, reduceEqDiff, reduceAdd, reduceLeDiff, reduceMul, Int.reduceEq], by simp only [SB, f1, hb1, reduceLT, reduceEqDiff, reduceAdd, reduceLeDiff, reduceMul, Int.reduceEq], by simp only [SB, f1, hb1, ty26, sFnc, reduceLT, reduceEqDiff, reduceAdd, reduceLeDiff, reduceMul, Int.reduceEq], by simp only [SB, f1, hb1, ty26, sFnc, reduceLT, reduceEqDiff, reduceAdd, reduceLeDiff, reduceMul, Int.reduceEq], by simp only [SB, f1, hb1, ty26, sFnc, reduceLT, reduceEqDiff, reduceAdd, reduceLeDiff, reduceMul, Int.reduceEq]⟩ ?_
    rintro a1 H1 ⟨kp1, kh1, e3, e4, e5⟩
    have f2 := And.intro f1 (And.intro hb1 (And.intro (KpF kp1) (And.intro (KHF kh1) (And.intro e3 (And.intro e4 (e5))))))
    obtain ⟨b1, kb1, h⟩ := bndO h
    refine U_cut (fun a' H' => H1 = H' ∧ Kp [] 13 a' a1 ∧ a'.get 28 = .bool b1) ?_ ?_
    · refine U_reg ?_
      have hx1 : false = false := by simp only [SB]
      rw [if_neg (by rw [hx1]; decide)] at kb1
      obtain ⟨r5, kr5, kb1⟩ := bndO kb1
      have hq1 := (Option.some.inj kb1).symm
      simp only [SB, hq1, ty29, nil_cmp (P := Try.prog) ty29 rfl, f2, reduceLT, reduceEqDiff, reduceAdd, reduceLeDiff, reduceMul, Int.reduceEq]
      refine callP (w_graph_Graph_Len kr5) ?_
      simp only [SB, hq1, ty29, nil_cmp (P := Try.prog) ty29 rfl, len_sim ty31 rfl, f2, reduceLT, reduceEqDiff, reduceAdd, reduceLeDiff, reduceMul, Int.reduceEq]
      refine hold_intro ?_
      exact ⟨rfl, by simp only [SB, f2, reduceLT, reduceEqDiff, reduceAdd, reduceLeDiff, reduceMul, Int.reduceEq], by simp only [SB, f2, hq1, ty29, nil_cmp (P := Try.prog) ty29 rfl, len_sim ty31 rfl, reduceLT, reduceEqDiff, reduceAdd, reduceLeDiff, reduceMul, Int.reduceEq]⟩
    · rintro a2 H2 ⟨rfl, kp2, e6⟩
      have f3 := And.intro f2 (And.intro (KpF kp2) (e6))
      rcases Bool.eq_false_or_eq_true (b1) with hb2 | hb2
      ·
        rw [if_pos hb2] at h
        refine U_condT (by simp only [SB, f3, hb2, reduceLT, reduceEqDiff, reduceAdd, reduceLeDiff, reduceMul, Int.reduceEq]) ?_
        refine U_seq ?_
        refine U_reg ?_
        simp only [SB, f3, hb2, reduceLT, reduceEqDiff, reduceAdd, reduceLeDiff, reduceMul, Int.reduceEq]
        refine hold_intro ?_
        refine U_ret ?_
        replace h := Option.some.inj h
        subst h
        refine ⟨.bool false, by simp only [ires, iress, Try.results3, SB, List.toList_toArray, f3, hb2, reduceLT, reduceEqDiff, reduceAdd, reduceLeDiff, reduceMul, Int.reduceEq], ?_⟩
        exact .cl (closed_bool _)
      ·
        rw [if_neg (by rw [hb2]; decide)] at h
        refine U_condF (by simp only [SB, f3, hb2, reduceLT, reduceEqDiff, reduceAdd, reduceLeDiff, reduceMul, Int.reduceEq]) ?_
        refine U_skip ?_
        refine U_seq ?_
        refine U_reg ?_
        simp only [SB, f3, hb2, reduceLT, reduceEqDiff, reduceAdd, reduceLeDiff, reduceMul, Int.reduceEq]
        refine hold_intro ?_
        refine U_seq ?_
        obtain ⟨r6, kr6, h⟩ := bndO h
        refine U_reg ?_
        simp only [SB, f3, hb2, reduceLT, reduceEqDiff, reduceAdd, reduceLeDiff, reduceMul, Int.reduceEq]
        refine callP (w_graph_Graph_Edges kr6) ?_
        simp only [SB, f3, hb2, reduceLT, reduceEqDiff, reduceAdd, reduceLeDiff, reduceMul, Int.reduceEq]
        refine hold_intro ?_
        refine U_seq ?_
        refine U_seq ?_
        refine U_reg ?_
        simp only [SB, f3, hb2, reduceLT, reduceEqDiff, reduceAdd, reduceLeDiff, reduceMul, Int.reduceEq]
        refine hold_intro ?_
        refine U_at (fun a' H' => Kp [7, 8, 9] 13 a' a2 ∧ H1 = H' ∧ a'.get 7 = .int .i64 0 ∧ a'.get 8 = .sim (r6.map (eA2 eInt)) false ∧ a'.get 9 = .int .i64 0) ⟨by simp only [SB, f3, hb2, reduceLT, reduceEqDiff, reduceAdd, reduceLeDiff, reduceMul, Int.reduceEq], rfl, by simp only [SB, f3, hb2, reduceLT, reduceEqDiff, reduceAdd, reduceLeDiff, reduceMul, Int.reduceEq], by simp only [SB, f3, hb2, reduceLT, reduceEqDiff, reduceAdd, reduceLeDiff, reduceMul, Int.reduceEq], by simp only [SB, f3, hb2, reduceLT, reduceEqDiff, reduceAdd, reduceLeDiff, reduceMul, Int.reduceEq]⟩ ?_
        rintro a3 H3 ⟨kp3, rfl, e7, e8, e9⟩
        have f4 := And.intro f3 (And.intro hb2 (And.intro (KpF kp3) (And.intro e7 (And.intro e8 (e9)))))
        obtain ⟨u1, he1, h⟩ := bndE h
        obtain ⟨hhi1, hlo1, he1⟩ := toE_facts he1
        refine U_cut (fun a' H' => ∃ nv_2 : Int, u1 = .n nv_2 ∧ Kp [4, 7, 9, 10] 13 a' a3 ∧ KH [] H' H1 ∧ a'.get 7 = .int .i64 nv_2) (U_block (U_loop (fun y a' H' => match y with | (i1, nv_2) => forE ((r4.length : Int) - i1).toNat i1 (fun i s => p_dyehouselaw19_GraphTells_b1 fuel r3 r4 r6 i s) nv_2 = some u1 ∧ 0 ≤ i1 ∧ Kp [4, 7, 9, 10] 13 a' a3 ∧ KH [] H' H1 ∧ a'.get 9 = .int .i64 i1 ∧ a'.get 7 = .int .i64 nv_2 : (Int × Int) → Fr → Heap → Prop) (fun y : Int × Int => ((r4.length : Int) - y.1).toNat) (0, 0) ?_ ?_)) ?_
        · exact ⟨he1, Int.le_refl _, by simp only [SB, f4, reduceLT, reduceEqDiff, reduceAdd, reduceLeDiff, reduceMul, Int.reduceEq], by simp only [SB, f4, reduceLT, reduceEqDiff, reduceAdd, reduceLeDiff, reduceMul, Int.reduceEq], by simp only [SB, f4, reduceLT, reduceEqDiff, reduceAdd, reduceLeDiff, reduceMul, Int.reduceEq], by simp only [SB, f4, reduceLT, reduceEqDiff, reduceAdd, reduceLeDiff, reduceMul, Int.reduceEq]⟩
        ·
          rintro ⟨i1, nv_2⟩ a4 H4 ⟨hf2, hl1, kp4, kh3, e11, e10⟩
          by_cases hlt1 : i1 < (r4.length : Int)
          ·
            obtain ⟨u2, hr1, hl2⟩ := forE_step hf2 hlt1
            replace hr1 : p_dyehouselaw19_GraphTells_b1 fuel r3 r4 r6 i1 nv_2 = some u2 := hr1
            unfold p_dyehouselaw19_GraphTells_b1 at hr1
            have hw1 := wrap_next hlt1 hhi1 hlo1 hl1
            have hlt1_t : decide (i1 < (r4.length : Int)) = true := decide_eq_true hlt1
            have f5 := And.intro f4 (And.intro e10 (And.intro (KpF kp4) (And.intro (KHF kh3) (And.intro e11 (And.intro hw1 (hlt1_t))))))
            refine U_seq (U_seq ?_)
            refine U_reg ?_
            simp only [SB, len_sim ty31 rfl, f5, reduceLT, reduceEqDiff, reduceAdd, reduceLeDiff, reduceMul, Int.reduceEq]
            refine hold_intro ?_
            refine U_condT (by simp only [SB, f5, len_sim ty31 rfl, reduceLT, reduceEqDiff, reduceAdd, reduceLeDiff, reduceMul, Int.reduceEq]) (U_skip ?_)
            refine U_seq ?_
            refine U_block ?_
            refine U_seq ?_
            refine U_seq ?_
            refine U_at (fun a' H' => Kp [] 13 a' a4 ∧ H4 = H') ⟨by simp only [SB, f5, reduceLT, reduceEqDiff, reduceAdd, reduceLeDiff, reduceMul, Int.reduceEq], rfl⟩ ?_
            rintro a5 H5 ⟨kp5, rfl⟩
            obtain ⟨r7, kr7, hr1⟩ := bndO hr1
            obtain ⟨x1, kx1, hr1⟩ := bndO hr1
            obtain ⟨r8, kr8, hr1⟩ := bndO hr1
            obtain ⟨b2, kb2, hr1⟩ := bndO hr1
            refine U_cut (fun a' H' => H4 = H' ∧ Kp [] 13 a' a5 ∧ a'.get 55 = .bool b2) ?_ ?_
            · refine U_draw hm false 15 (by decide +kernel) (by decide) ?_
              rcases Bool.eq_false_or_eq_true ((!r8)) with hb3 | hb3
              ·
                have hx2 := hb3
                rw [if_pos hx2] at kb2
                have hq2 := (Option.some.inj kb2).symm
                simp only [SB, hb3, hq2, f5, KpF kp5, reduceLT, reduceEqDiff, reduceAdd, reduceLeDiff, reduceMul, Int.reduceEq]
                refine callP (w_graph_Graph_Succ kr7) ?_
                simp only [SB, hb3, hq2, ty31, ty37, iia_sim (f := eS eInt) ty31 rfl ty37 kx1 rfl, row_sim (f := eS eInt) kx1, f5, KpF kp5, reduceLT, reduceEqDiff, reduceAdd, reduceLeDiff, reduceMul, Int.reduceEq]
                refine callP (w_dyehouseref12_Ints kr8) ?_
                simp only [SB, hb3, hq2, ty31, ty37, iia_sim (f := eS eInt) ty31 rfl ty37 kx1 rfl, row_sim (f := eS eInt) kx1, f5, KpF kp5, reduceLT, reduceEqDiff, reduceAdd, reduceLeDiff, reduceMul, Int.reduceEq]
                refine hold_intro ?_
                exact ⟨rfl, by simp only [SB, f5, KpF kp5, reduceLT, reduceEqDiff, reduceAdd, reduceLeDiff, reduceMul, Int.reduceEq], by simp only [SB, f5, KpF kp5, hb3, hq2, ty31, ty37, iia_sim (f := eS eInt) ty31 rfl ty37 kx1 rfl, row_sim (f := eS eInt) kx1, reduceLT, reduceEqDiff, reduceAdd, reduceLeDiff, reduceMul, Int.reduceEq]⟩
              ·
                have hx3 := hb3
                rw [if_neg (by rw [hx3]; decide)] at kb2
                obtain ⟨r9, kr9, kb2⟩ := bndO kb2
                obtain ⟨r10, kr10, kb2⟩ := bndO kb2
                obtain ⟨r11, kr11, kb2⟩ := bndO kb2
                have hq3 := (Option.some.inj kb2).symm
                simp only [SB, hb3, hq3, f5, KpF kp5, reduceLT, reduceEqDiff, reduceAdd, reduceLeDiff, reduceMul, Int.reduceEq]
                refine callP (w_graph_Graph_Succ kr7) ?_
                simp only [SB, hb3, hq3, ty31, ty37, iia_sim (f := eS eInt) ty31 rfl ty37 kx1 rfl, row_sim (f := eS eInt) kx1, f5, KpF kp5, reduceLT, reduceEqDiff, reduceAdd, reduceLeDiff, reduceMul, Int.reduceEq]
                refine callP (w_dyehouseref12_Ints kr8) ?_
                simp only [SB, hb3, hq3, ty31, ty37, iia_sim (f := eS eInt) ty31 rfl ty37 kx1 rfl, row_sim (f := eS eInt) kx1, f5, KpF kp5, reduceLT, reduceEqDiff, reduceAdd, reduceLeDiff, reduceMul, Int.reduceEq]
                refine callP (w_graph_Graph_Pred kr9) ?_
                simp only [SB, hb3, hq3, ty31, ty37, iia_sim (f := eS eInt) ty31 rfl ty37 kx1 rfl, row_sim (f := eS eInt) kx1, f5, KpF kp5, reduceLT, reduceEqDiff, reduceAdd, reduceLeDiff, reduceMul, Int.reduceEq]
                refine callP (w_dyehouseref19_Pred kr10) ?_
                simp only [SB, hb3, hq3, ty31, ty37, iia_sim (f := eS eInt) ty31 rfl ty37 kx1 rfl, row_sim (f := eS eInt) kx1, f5, KpF kp5, reduceLT, reduceEqDiff, reduceAdd, reduceLeDiff, reduceMul, Int.reduceEq]
                refine callP (w_dyehouseref12_Ints kr11) ?_
                simp only [SB, hb3, hq3, ty31, ty37, iia_sim (f := eS eInt) ty31 rfl ty37 kx1 rfl, row_sim (f := eS eInt) kx1, f5, KpF kp5, reduceLT, reduceEqDiff, reduceAdd, reduceLeDiff, reduceMul, Int.reduceEq]
                refine hold_intro ?_
                exact ⟨rfl, by simp only [SB, f5, KpF kp5, reduceLT, reduceEqDiff, reduceAdd, reduceLeDiff, reduceMul, Int.reduceEq], by simp only [SB, f5, KpF kp5, hb3, hq3, ty31, ty37, iia_sim (f := eS eInt) ty31 rfl ty37 kx1 rfl, row_sim (f := eS eInt) kx1, reduceLT, reduceEqDiff, reduceAdd, reduceLeDiff, reduceMul, Int.reduceEq]⟩
            · rintro a6 H6 ⟨rfl, kp6, e12⟩
              have f6 := And.intro f5 (And.intro (KpF kp5) (And.intro (KpF kp6) (e12)))
              rcases Bool.eq_false_or_eq_true (b2) with hb4 | hb4
              ·
                rw [if_pos hb4] at hr1
                refine U_condT (by simp only [SB, f6, hb4, reduceLT, reduceEqDiff, reduceAdd, reduceLeDiff, reduceMul, Int.reduceEq]) ?_
                refine U_seq ?_
                refine U_reg ?_
                simp only [SB, f6, hb4, reduceLT, reduceEqDiff, reduceAdd, reduceLeDiff, reduceMul, Int.reduceEq]
                refine hold_intro ?_
                refine U_ret ?_
                replace hr1 := Option.some.inj hr1
                subst hr1
                replace hl2 : u1 = .r _ := hl2
                subst hl2
                replace h := outE_r h
                replace h := Option.some.inj h
                subst h
                refine ⟨.bool false, by simp only [ires, iress, Try.results3, SB, List.toList_toArray, f6, hb4, reduceLT, reduceEqDiff, reduceAdd, reduceLeDiff, reduceMul, Int.reduceEq], ?_⟩
                exact .cl (closed_bool _)
              ·
                rw [if_neg (by rw [hb4]; decide)] at hr1
                refine U_condF (by simp only [SB, f6, hb4, reduceLT, reduceEqDiff, reduceAdd, reduceLeDiff, reduceMul, Int.reduceEq]) ?_
                refine U_skip ?_
                refine U_seq ?_
                refine U_reg ?_
                simp only [SB, f6, hb4, reduceLT, reduceEqDiff, reduceAdd, reduceLeDiff, reduceMul, Int.reduceEq]
                refine hold_intro ?_
                refine U_at (fun a' H' => Kp [10] 13 a' a6 ∧ H4 = H' ∧ a'.get 10 = .int .i64 0) ⟨by simp only [SB, f6, hb4, reduceLT, reduceEqDiff, reduceAdd, reduceLeDiff, reduceMul, Int.reduceEq], rfl, by simp only [SB, f6, hb4, reduceLT, reduceEqDiff, reduceAdd, reduceLeDiff, reduceMul, Int.reduceEq]⟩ ?_
                rintro a7 H7 ⟨kp7, rfl, e13⟩
                have f7 := And.intro f6 (And.intro hb4 (And.intro (KpF kp7) (e13)))
                obtain ⟨u3, he2, hr1⟩ := bndE hr1
                obtain ⟨hhi2, hlo2, he2⟩ := toE_facts he2
                refine U_cut (fun a' H' => ∃ nv_4 : Int, u3 = .n nv_4 ∧ Kp [4, 7, 10] 13 a' a7 ∧ KH [] H' H4 ∧ a'.get 7 = .int .i64 nv_4) (U_block (U_loop (fun y a' H' => match y with | (i2, nv_4) => forE ((r4.length : Int) - i2).toNat i2 (fun i s => p_dyehouselaw19_GraphTells_b2 fuel r6 i1 x1 i s) nv_4 = some u3 ∧ 0 ≤ i2 ∧ Kp [4, 7, 10] 13 a' a7 ∧ KH [] H' H4 ∧ a'.get 10 = .int .i64 i2 ∧ a'.get 7 = .int .i64 nv_4 : (Int × Int) → Fr → Heap → Prop) (fun y : Int × Int => ((r4.length : Int) - y.1).toNat) (0, nv_2) ?_ ?_)) ?_
                · exact ⟨he2, Int.le_refl _, by simp only [SB, f7, reduceLT, reduceEqDiff, reduceAdd, reduceLeDiff, reduceMul, Int.reduceEq], by simp only [SB, f7, reduceLT, reduceEqDiff, reduceAdd, reduceLeDiff, reduceMul, Int.reduceEq], by simp only [SB, f7, reduceLT, reduceEqDiff, reduceAdd, reduceLeDiff, reduceMul, Int.reduceEq], by simp only [SB, f7, reduceLT, reduceEqDiff, reduceAdd, reduceLeDiff, reduceMul, Int.reduceEq]⟩
                ·
                  rintro ⟨i2, nv_4⟩ a8 H8 ⟨hf4, hl3, kp8, kh5, e15, e14⟩
                  by_cases hlt2 : i2 < (r4.length : Int)
                  ·
                    obtain ⟨u4, hr2, hl4⟩ := forE_step hf4 hlt2
                    replace hr2 : p_dyehouselaw19_GraphTells_b2 fuel r6 i1 x1 i2 nv_4 = some u4 := hr2
                    unfold p_dyehouselaw19_GraphTells_b2 at hr2
                    have hw2 := wrap_next hlt2 hhi2 hlo2 hl3
                    have hlt2_t : decide (i2 < (r4.length : Int)) = true := decide_eq_true hlt2
                    have f8 := And.intro f7 (And.intro e14 (And.intro (KpF kp8) (And.intro (KHF kh5) (And.intro e15 (And.intro hw2 (hlt2_t))))))
                    refine U_seq (U_seq ?_)
                    refine U_reg ?_
                    simp only [SB, len_sim ty31 rfl, f8, reduceLT, reduceEqDiff, reduceAdd, reduceLeDiff, reduceMul, Int.reduceEq]
                    refine hold_intro ?_
                    refine U_condT (by simp only [SB, f8, len_sim ty31 rfl, reduceLT, reduceEqDiff, reduceAdd, reduceLeDiff, reduceMul, Int.reduceEq]) (U_skip ?_)
                    refine U_seq ?_
                    refine U_block ?_
                    refine U_seq ?_
                    obtain ⟨r12, kr12, hr2⟩ := bndO hr2
                    refine U_reg ?_
                    simp only [SB, ty31, ty37, iia_sim (f := eS eInt) ty31 rfl ty37 kx1 rfl, row_sim (f := eS eInt) kx1, f8, reduceLT, reduceEqDiff, reduceAdd, reduceLeDiff, reduceMul, Int.reduceEq]
                    refine callP (w_dyehouseref12_In kr12) ?_
                    simp only [SB, ty31, ty37, iia_sim (f := eS eInt) ty31 rfl ty37 kx1 rfl, row_sim (f := eS eInt) kx1, f8, reduceLT, reduceEqDiff, reduceAdd, reduceLeDiff, reduceMul, Int.reduceEq]
                    refine hold_intro ?_
                    rcases Bool.eq_false_or_eq_true (r12) with hb5 | hb5
                    ·
                      rw [if_pos hb5] at hr2
                      refine U_condT (by simp only [SB, f8, hb5, ty31, ty37, iia_sim (f := eS eInt) ty31 rfl ty37 kx1 rfl, row_sim (f := eS eInt) kx1, reduceLT, reduceEqDiff, reduceAdd, reduceLeDiff, reduceMul, Int.reduceEq]) ?_
                      refine U_seq ?_
                      refine U_seq ?_
                      refine U_at (fun a' H' => Kp [] 13 a' a8 ∧ H8 = H' ∧ a'.get 67 = .bool r12) ⟨by simp only [SB, f8, hb5, reduceLT, reduceEqDiff, reduceAdd, reduceLeDiff, reduceMul, Int.reduceEq], rfl, by simp only [SB, f8, hb5, ty31, ty37, iia_sim (f := eS eInt) ty31 rfl ty37 kx1 rfl, row_sim (f := eS eInt) kx1, reduceLT, reduceEqDiff, reduceAdd, reduceLeDiff, reduceMul, Int.reduceEq]⟩ ?_
                      rintro a9 H9 ⟨kp9, rfl, e16⟩
                      have f9 := And.intro f8 (And.intro hb5 (And.intro (KpF kp9) (e16)))
                      obtain ⟨b3, kb3, hr2⟩ := bndO hr2
                      refine U_cut (fun a' H' => H8 = H' ∧ Kp [] 13 a' a9 ∧ a'.get 81 = .bool b3) ?_ ?_
                      · refine U_reg ?_
                        rcases Bool.eq_false_or_eq_true (decide ((r6.length : Int) ≤ nv_4)) with hb6 | hb6
                        ·
                          have hx4 := hb6
                          rw [if_pos hx4] at kb3
                          have hq4 := (Option.some.inj kb3).symm
                          simp only [SB, hb6, hq4, len_sim ty34 rfl, f9, reduceLT, reduceEqDiff, reduceAdd, reduceLeDiff, reduceMul, Int.reduceEq]
                          refine hold_intro ?_
                          exact ⟨rfl, by simp only [SB, f9, reduceLT, reduceEqDiff, reduceAdd, reduceLeDiff, reduceMul, Int.reduceEq], by simp only [SB, f9, hb6, hq4, len_sim ty34 rfl, reduceLT, reduceEqDiff, reduceAdd, reduceLeDiff, reduceMul, Int.reduceEq]⟩
                        ·
                          have hx5 := hb6
                          rw [if_neg (by rw [hx5]; decide)] at kb3
                          obtain ⟨x2, kx2, kb3⟩ := bndO kb3
                          have hq5 := (Option.some.inj kb3).symm
                          simp only [SB, hb6, hq5, len_sim ty34 rfl, ty34, ty41, iia_sim (f := eA2 eInt) ty34 rfl ty41 kx2 rfl, row_sim (f := eA2 eInt) kx2, sA41, ty3, fk41, q41, (Eq.trans rfl rfl : IV.agg [.int .i64 i1, .int .i64 i2] = .agg (eA2 eInt ((⟨i1, i2⟩ : A2 Int) : A2 Int))), f9, reduceLT, reduceEqDiff, reduceAdd, reduceLeDiff, reduceMul, Int.reduceEq]
                          refine hold_intro ?_
                          exact ⟨rfl, by simp only [SB, f9, reduceLT, reduceEqDiff, reduceAdd, reduceLeDiff, reduceMul, Int.reduceEq], by simp only [SB, f9, hb6, hq5, len_sim ty34 rfl, ty34, ty41, iia_sim (f := eA2 eInt) ty34 rfl ty41 kx2 rfl, row_sim (f := eA2 eInt) kx2, sA41, ty3, fk41, q41, (Eq.trans rfl rfl : IV.agg [.int .i64 i1, .int .i64 i2] = .agg (eA2 eInt ((⟨i1, i2⟩ : A2 Int) : A2 Int))), reduceLT, reduceEqDiff, reduceAdd, reduceLeDiff, reduceMul, Int.reduceEq]⟩
                      · rintro a10 H10 ⟨rfl, kp10, e17⟩
                        have f10 := And.intro f9 (And.intro (KpF kp10) (e17))
                        rcases Bool.eq_false_or_eq_true (b3) with hb7 | hb7
                        ·
                          rw [if_pos hb7] at hr2
                          refine U_condT (by simp only [SB, f10, hb7, reduceLT, reduceEqDiff, reduceAdd, reduceLeDiff, reduceMul, Int.reduceEq]) ?_
                          refine U_seq ?_
                          refine U_reg ?_
                          simp only [SB, f10, hb7, reduceLT, reduceEqDiff, reduceAdd, reduceLeDiff, reduceMul, Int.reduceEq]
                          refine hold_intro ?_
                          refine U_ret ?_
                          replace hr2 := Option.some.inj hr2
                          subst hr2
                          replace hl4 : u3 = .r _ := hl4
                          subst hl4
                          replace hr1 := outE_r hr1
                          replace hr1 := Option.some.inj hr1
                          subst hr1
                          replace hl2 : u1 = .r _ := hl2
                          subst hl2
                          replace h := outE_r h
                          replace h := Option.some.inj h
                          subst h
                          refine ⟨.bool false, by simp only [ires, iress, Try.results3, SB, List.toList_toArray, f10, hb7, reduceLT, reduceEqDiff, reduceAdd, reduceLeDiff, reduceMul, Int.reduceEq], ?_⟩
                          exact .cl (closed_bool _)
                        ·
                          rw [if_neg (by rw [hb7]; decide)] at hr2
                          refine U_condF (by simp only [SB, f10, hb7, reduceLT, reduceEqDiff, reduceAdd, reduceLeDiff, reduceMul, Int.reduceEq]) ?_
                          refine U_skip ?_
                          refine U_reg ?_
                          simp only [SB, f10, hb7, reduceLT, reduceEqDiff, reduceAdd, reduceLeDiff, reduceMul, Int.reduceEq]
                          refine hold_intro ?_
                          refine U_reg ?_
                          simp only [SB, f10, hb7, reduceLT, reduceEqDiff, reduceAdd, reduceLeDiff, reduceMul, Int.reduceEq]
                          refine hold_intro ?_
                          replace hr2 := Option.some.inj hr2
                          subst hr2
                          refine ⟨(i2 + 1, IntKind.wrap .i64 (nv_4 + 1)), ?_, hl4, Int.le_add_one hl3, by simp only [SB, f10, hb7, reduceLT, reduceEqDiff, reduceAdd, reduceLeDiff, reduceMul, Int.reduceEq], by simp only [SB, f10, hb7, reduceLT, reduceEqDiff, reduceAdd, reduceLeDiff, reduceMul, Int.reduceEq], by simp only [SB, f10, hb7, reduceLT, reduceEqDiff, reduceAdd, reduceLeDiff, reduceMul, Int.reduceEq], by simp only [SB, f10, hb7, reduceLT, reduceEqDiff, reduceAdd, reduceLeDiff, reduceMul, Int.reduceEq]⟩
                          show ((r4.length : Int) - (i2 + 1)).toNat < ((r4.length : Int) - i2).toNat; omega
                    ·
                      rw [if_neg (by rw [hb5]; decide)] at hr2
                      refine U_condF (by simp only [SB, f8, hb5, ty31, ty37, iia_sim (f := eS eInt) ty31 rfl ty37 kx1 rfl, row_sim (f := eS eInt) kx1, reduceLT, reduceEqDiff, reduceAdd, reduceLeDiff, reduceMul, Int.reduceEq]) ?_
                      refine U_skip ?_
                      refine U_reg ?_
                      simp only [SB, f8, hb5, reduceLT, reduceEqDiff, reduceAdd, reduceLeDiff, reduceMul, Int.reduceEq]
                      refine hold_intro ?_
                      replace hr2 := Option.some.inj hr2
                      subst hr2
                      refine ⟨(i2 + 1, nv_4), ?_, hl4, Int.le_add_one hl3, by simp only [SB, f8, hb5, reduceLT, reduceEqDiff, reduceAdd, reduceLeDiff, reduceMul, Int.reduceEq], by simp only [SB, f8, hb5, reduceLT, reduceEqDiff, reduceAdd, reduceLeDiff, reduceMul, Int.reduceEq], by simp only [SB, f8, hb5, reduceLT, reduceEqDiff, reduceAdd, reduceLeDiff, reduceMul, Int.reduceEq], by simp only [SB, f8, hb5, reduceLT, reduceEqDiff, reduceAdd, reduceLeDiff, reduceMul, Int.reduceEq]⟩
                      show ((r4.length : Int) - (i2 + 1)).toNat < ((r4.length : Int) - i2).toNat; omega
                  ·
                    have hlt2_e := forE_end hf4 hlt2
                    have hlt2_t : decide (i2 < (r4.length : Int)) = false := decide_eq_false hlt2
                    have f11 := And.intro f7 (And.intro e14 (And.intro (KpF kp8) (And.intro (KHF kh5) (And.intro e15 (hlt2_t)))))
                    refine U_seq (U_seq ?_)
                    refine U_reg ?_
                    simp only [SB, len_sim ty31 rfl, f11, reduceLT, reduceEqDiff, reduceAdd, reduceLeDiff, reduceMul, Int.reduceEq]
                    refine hold_intro ?_
                    refine U_condF (by simp only [SB, f11, len_sim ty31 rfl, reduceLT, reduceEqDiff, reduceAdd, reduceLeDiff, reduceMul, Int.reduceEq]) (U_exit rfl ?_)
                    exact ⟨_, hlt2_e, by simp only [SB, f11, reduceLT, reduceEqDiff, reduceAdd, reduceLeDiff, reduceMul, Int.reduceEq], by simp only [SB, f11, reduceLT, reduceEqDiff, reduceAdd, reduceLeDiff, reduceMul, Int.reduceEq], by simp only [SB, f11, len_sim ty31 rfl, reduceLT, reduceEqDiff, reduceAdd, reduceLeDiff, reduceMul, Int.reduceEq]⟩
                ·
                  rintro a11 H11 ⟨nv_5, rfl, kp11, kh7, e18⟩
                  replace hr1 := outE_n hr1
                  have f12 := And.intro f7 (And.intro e18 (And.intro (KpF kp11) ((KHF kh7))))
                  refine U_reg ?_
                  simp only [SB, f12, reduceLT, reduceEqDiff, reduceAdd, reduceLeDiff, reduceMul, Int.reduceEq]
                  refine hold_intro ?_
                  replace hr1 := Option.some.inj hr1
                  subst hr1
                  refine ⟨(i1 + 1, nv_5), ?_, hl2, Int.le_add_one hl1, by simp only [SB, f12, reduceLT, reduceEqDiff, reduceAdd, reduceLeDiff, reduceMul, Int.reduceEq], by simp only [SB, f12, reduceLT, reduceEqDiff, reduceAdd, reduceLeDiff, reduceMul, Int.reduceEq], by simp only [SB, f12, reduceLT, reduceEqDiff, reduceAdd, reduceLeDiff, reduceMul, Int.reduceEq], by simp only [SB, f12, reduceLT, reduceEqDiff, reduceAdd, reduceLeDiff, reduceMul, Int.reduceEq]⟩
                  show ((r4.length : Int) - (i1 + 1)).toNat < ((r4.length : Int) - i1).toNat; omega
          ·
            have hlt1_e := forE_end hf2 hlt1
            have hlt1_t : decide (i1 < (r4.length : Int)) = false := decide_eq_false hlt1
            have f13 := And.intro f4 (And.intro e10 (And.intro (KpF kp4) (And.intro (KHF kh3) (And.intro e11 (hlt1_t)))))
            refine U_seq (U_seq ?_)
            refine U_reg ?_
            simp only [SB, len_sim ty31 rfl, f13, reduceLT, reduceEqDiff, reduceAdd, reduceLeDiff, reduceMul, Int.reduceEq]
            refine hold_intro ?_
            refine U_condF (by simp only [SB, f13, len_sim ty31 rfl, reduceLT, reduceEqDiff, reduceAdd, reduceLeDiff, reduceMul, Int.reduceEq]) (U_exit rfl ?_)
            exact ⟨_, hlt1_e, by simp only [SB, f13, reduceLT, reduceEqDiff, reduceAdd, reduceLeDiff, reduceMul, Int.reduceEq], by simp only [SB, f13, reduceLT, reduceEqDiff, reduceAdd, reduceLeDiff, reduceMul, Int.reduceEq], by simp only [SB, f13, len_sim ty31 rfl, reduceLT, reduceEqDiff, reduceAdd, reduceLeDiff, reduceMul, Int.reduceEq]⟩
        ·
          rintro a12 H12 ⟨nv_6, rfl, kp12, kh8, e19⟩
          replace h := outE_n h
          have f14 := And.intro f4 (And.intro e19 (And.intro (KpF kp12) ((KHF kh8))))
          refine U_seq ?_
          obtain ⟨r13, kr13, h⟩ := bndO h
          refine U_reg ?_
          simp only [SB, f14, reduceLT, reduceEqDiff, reduceAdd, reduceLeDiff, reduceMul, Int.reduceEq]
          refine callP (w_dyehouseref19_Reach kr13) ?_
          simp only [SB, f14, reduceLT, reduceEqDiff, reduceAdd, reduceLeDiff, reduceMul, Int.reduceEq]
          refine hold_intro ?_
          refine U_seq ?_
          refine U_seq ?_
          refine U_reg ?_
          simp only [SB, f14, reduceLT, reduceEqDiff, reduceAdd, reduceLeDiff, reduceMul, Int.reduceEq]
          refine hold_intro ?_
          refine U_at (fun a' H' => Kp [11, 12] 13 a' a12 ∧ H12 = H' ∧ a'.get 11 = .sim (r13.map eBool) false ∧ a'.get 12 = .int .i64 0) ⟨by simp only [SB, f14, reduceLT, reduceEqDiff, reduceAdd, reduceLeDiff, reduceMul, Int.reduceEq], rfl, by simp only [SB, f14, reduceLT, reduceEqDiff, reduceAdd, reduceLeDiff, reduceMul, Int.reduceEq], by simp only [SB, f14, reduceLT, reduceEqDiff, reduceAdd, reduceLeDiff, reduceMul, Int.reduceEq]⟩ ?_
          rintro a13 H13 ⟨kp13, rfl, e20, e21⟩
          have f15 := And.intro f14 (And.intro (KpF kp13) (And.intro e20 (e21)))
          obtain ⟨u5, he3, h⟩ := bndE h
          obtain ⟨hhi3, hlo3, he3⟩ := toE_facts he3
          refine U_cut (fun a' H' => u5 = .n () ∧ Kp [4, 12] 13 a' a13 ∧ KH [] H' H12) (U_block (U_loop (fun y a' H' => match y with | i3 => forE ((r4.length : Int) - i3).toNat i3 (fun i _ => p_dyehouselaw19_GraphTells_b3 fuel r3 r13 i) () = some u5 ∧ 0 ≤ i3 ∧ Kp [4, 12] 13 a' a13 ∧ KH [] H' H12 ∧ a'.get 12 = .int .i64 i3 : Int → Fr → Heap → Prop) (fun y : Int => ((r4.length : Int) - y).toNat) 0 ?_ ?_)) ?_
          · exact ⟨he3, Int.le_refl _, by simp only [SB, f15, reduceLT, reduceEqDiff, reduceAdd, reduceLeDiff, reduceMul, Int.reduceEq], by simp only [SB, f15, reduceLT, reduceEqDiff, reduceAdd, reduceLeDiff, reduceMul, Int.reduceEq], by simp only [SB, f15, reduceLT, reduceEqDiff, reduceAdd, reduceLeDiff, reduceMul, Int.reduceEq]⟩
          ·
            rintro i3 a14 H14 ⟨hf6, hl5, kp14, kh9, e22⟩
            by_cases hlt3 : i3 < (r4.length : Int)
            ·
              obtain ⟨u6, hr3, hl6⟩ := forE_step hf6 hlt3
              replace hr3 : p_dyehouselaw19_GraphTells_b3 fuel r3 r13 i3 = some u6 := hr3
              unfold p_dyehouselaw19_GraphTells_b3 at hr3
              have hw3 := wrap_next hlt3 hhi3 hlo3 hl5
              have hlt3_t : decide (i3 < (r4.length : Int)) = true := decide_eq_true hlt3
              have f16 := And.intro f15 (And.intro (KpF kp14) (And.intro (KHF kh9) (And.intro e22 (And.intro hw3 (hlt3_t)))))
              refine U_seq (U_seq ?_)
              refine U_reg ?_
              simp only [SB, len_sim ty31 rfl, f16, reduceLT, reduceEqDiff, reduceAdd, reduceLeDiff, reduceMul, Int.reduceEq]
              refine hold_intro ?_
              refine U_condT (by simp only [SB, f16, len_sim ty31 rfl, reduceLT, reduceEqDiff, reduceAdd, reduceLeDiff, reduceMul, Int.reduceEq]) (U_skip ?_)
              refine U_seq ?_
              refine U_block ?_
              refine U_seq ?_
              obtain ⟨r14, kr14, hr3⟩ := bndO hr3
              obtain ⟨r15, kr15, hr3⟩ := bndO hr3
              obtain ⟨x3, kx3, hr3⟩ := bndO hr3
              refine U_draw hm false 8 (by decide +kernel) (by decide) ?_
              simp only [SB, f16, reduceLT, reduceEqDiff, reduceAdd, reduceLeDiff, reduceMul, Int.reduceEq]
              refine callP (w_graph_Graph_Reached kr14) ?_
              simp only [SB, f16, reduceLT, reduceEqDiff, reduceAdd, reduceLeDiff, reduceMul, Int.reduceEq]
              refine callP (w_bits_Set_Has kr15) ?_
              simp only [SB, ty42, ty4, iia_sim (f := eBool) ty42 rfl ty4 kx3 rfl, row_sim (f := eBool) kx3, bin_bool (P := Try.prog) ty4 rfl, f16, reduceLT, reduceEqDiff, reduceAdd, reduceLeDiff, reduceMul, Int.reduceEq]
              refine hold_intro ?_
              rcases Bool.eq_false_or_eq_true ((r15 != x3)) with hb8 | hb8
              ·
                rw [if_pos hb8] at hr3
                refine U_condT (by simp only [SB, f16, hb8, ty42, ty4, iia_sim (f := eBool) ty42 rfl ty4 kx3 rfl, row_sim (f := eBool) kx3, bin_bool (P := Try.prog) ty4 rfl, reduceLT, reduceEqDiff, reduceAdd, reduceLeDiff, reduceMul, Int.reduceEq]) ?_
                refine U_seq ?_
                refine U_reg ?_
                simp only [SB, f16, hb8, reduceLT, reduceEqDiff, reduceAdd, reduceLeDiff, reduceMul, Int.reduceEq]
                refine hold_intro ?_
                refine U_ret ?_
                replace hr3 := Option.some.inj hr3
                subst hr3
                replace hl6 : u5 = .r _ := hl6
                subst hl6
                replace h := outE_r h
                replace h := Option.some.inj h
                subst h
                refine ⟨.bool false, by simp only [ires, iress, Try.results3, SB, List.toList_toArray, f16, hb8, reduceLT, reduceEqDiff, reduceAdd, reduceLeDiff, reduceMul, Int.reduceEq], ?_⟩
                exact .cl (closed_bool _)
              ·
                rw [if_neg (by rw [hb8]; decide)] at hr3
                refine U_condF (by simp only [SB, f16, hb8, ty42, ty4, iia_sim (f := eBool) ty42 rfl ty4 kx3 rfl, row_sim (f := eBool) kx3, bin_bool (P := Try.prog) ty4 rfl, reduceLT, reduceEqDiff, reduceAdd, reduceLeDiff, reduceMul, Int.reduceEq]) ?_
                refine U_skip ?_
                refine U_reg ?_
                simp only [SB, f16, hb8, reduceLT, reduceEqDiff, reduceAdd, reduceLeDiff, reduceMul, Int.reduceEq]
                refine hold_intro ?_
                replace hr3 := Option.some.inj hr3
                subst hr3
                refine ⟨i3 + 1, ?_, hl6, Int.le_add_one hl5, by simp only [SB, f16, hb8, reduceLT, reduceEqDiff, reduceAdd, reduceLeDiff, reduceMul, Int.reduceEq], by simp only [SB, f16, hb8, reduceLT, reduceEqDiff, reduceAdd, reduceLeDiff, reduceMul, Int.reduceEq], by simp only [SB, f16, hb8, reduceLT, reduceEqDiff, reduceAdd, reduceLeDiff, reduceMul, Int.reduceEq]⟩
                show ((r4.length : Int) - (i3 + 1)).toNat < ((r4.length : Int) - i3).toNat; omega
            ·
              have hlt3_e := forE_end hf6 hlt3
              have hlt3_t : decide (i3 < (r4.length : Int)) = false := decide_eq_false hlt3
              have f17 := And.intro f15 (And.intro (KpF kp14) (And.intro (KHF kh9) (And.intro e22 (hlt3_t))))
              refine U_seq (U_seq ?_)
              refine U_reg ?_
              simp only [SB, len_sim ty31 rfl, f17, reduceLT, reduceEqDiff, reduceAdd, reduceLeDiff, reduceMul, Int.reduceEq]
              refine hold_intro ?_
              refine U_condF (by simp only [SB, f17, len_sim ty31 rfl, reduceLT, reduceEqDiff, reduceAdd, reduceLeDiff, reduceMul, Int.reduceEq]) (U_exit rfl ?_)
              exact ⟨hlt3_e, by simp only [SB, f17, reduceLT, reduceEqDiff, reduceAdd, reduceLeDiff, reduceMul, Int.reduceEq], by simp only [SB, f17, reduceLT, reduceEqDiff, reduceAdd, reduceLeDiff, reduceMul, Int.reduceEq]⟩
          ·
            rintro a15 H15 ⟨rfl, kp15, kh10⟩
            replace h := outE_n h
            have f18 := And.intro f15 (And.intro (KpF kp15) ((KHF kh10)))
            refine U_seq ?_
            refine U_seq ?_
            refine U_cut (fun a' H' => H15 = H' ∧ Kp [] 13 a' a15 ∧ a'.get 108 = .bool ((decide (i_1 < 0)) || (decide ((r4.length : Int) ≤ i_1)))) ?_ ?_
            · refine U_reg ?_
              rcases Bool.eq_false_or_eq_true (decide (i_1 < 0)) with hb9 | hb9
              ·
                simp only [SB, hb9, f18, reduceLT, reduceEqDiff, reduceAdd, reduceLeDiff, reduceMul, Int.reduceEq]
                refine hold_intro ?_
                exact ⟨rfl, by simp only [SB, f18, reduceLT, reduceEqDiff, reduceAdd, reduceLeDiff, reduceMul, Int.reduceEq], by simp only [SB, f18, hb9, reduceLT, reduceEqDiff, reduceAdd, reduceLeDiff, reduceMul, Int.reduceEq]⟩
              ·
                simp only [SB, hb9, len_sim ty31 rfl, f18, reduceLT, reduceEqDiff, reduceAdd, reduceLeDiff, reduceMul, Int.reduceEq]
                refine hold_intro ?_
                exact ⟨rfl, by simp only [SB, f18, reduceLT, reduceEqDiff, reduceAdd, reduceLeDiff, reduceMul, Int.reduceEq], by simp only [SB, f18, hb9, len_sim ty31 rfl, reduceLT, reduceEqDiff, reduceAdd, reduceLeDiff, reduceMul, Int.reduceEq]⟩
            · rintro a16 H16 ⟨rfl, kp16, e23⟩
              have f19 := And.intro f18 (And.intro (KpF kp16) (e23))
              rcases Bool.eq_false_or_eq_true (((decide (i_1 < 0)) || (decide ((r4.length : Int) ≤ i_1)))) with hb10 | hb10
              ·
                rw [if_pos hb10] at h
                refine U_condT (by simp only [SB, f19, hb10, reduceLT, reduceEqDiff, reduceAdd, reduceLeDiff, reduceMul, Int.reduceEq]) ?_
                refine U_seq ?_
                obtain ⟨r16, kr16, h⟩ := bndO h
                obtain ⟨b4, kb4, h⟩ := bndO h
                obtain ⟨b5, kb5, h⟩ := bndO h
                refine U_cut (fun a' H' => H15 = H' ∧ Kp [4] 13 a' a16 ∧ a'.get 4 = .bool b5) ?_ ?_
                · refine U_reg ?_
                  rcases Bool.eq_false_or_eq_true (decide ((r16.length : Int) = 0)) with hb11 | hb11
                  ·
                    have hx6 := hb11
                    rw [if_pos hx6] at kb4
                    obtain ⟨r17, kr17, kb4⟩ := bndO kb4
                    have hq6 := (Option.some.inj kb4).symm
                    rcases Bool.eq_false_or_eq_true (decide ((r17.length : Int) = 0)) with hb12 | hb12
                    ·
                      rcases Bool.eq_false_or_eq_true (decide (nv_6 = (r6.length : Int))) with hb13 | hb13
                      ·
                        have hx7 : (b4 && (decide (nv_6 = (r6.length : Int)))) = true := by simp only [SB, hb11, hq6, hb12, hb13]
                        rw [if_pos hx7] at kb5
                        obtain ⟨r18, kr18, kb5⟩ := bndO kb5
                        have hq7 := (Option.some.inj kb5).symm
                        simp only [SB, hb11, hq6, hb12, hb13, hq7, f19, hb10, reduceLT, reduceEqDiff, reduceAdd, reduceLeDiff, reduceMul, Int.reduceEq]
                        refine callP (w_graph_Graph_Succ kr16) ?_
                        simp only [SB, hb11, hq6, hb12, hb13, hq7, len_sim ty37 rfl, f19, hb10, reduceLT, reduceEqDiff, reduceAdd, reduceLeDiff, reduceMul, Int.reduceEq]
                        refine callP (w_graph_Graph_Pred kr17) ?_
                        simp only [SB, hb11, hq6, hb12, hb13, hq7, len_sim ty37 rfl, len_sim ty34 rfl, f19, hb10, reduceLT, reduceEqDiff, reduceAdd, reduceLeDiff, reduceMul, Int.reduceEq]
                        refine callP (w_dyehouselaw19_works kr18) ?_
                        simp only [SB, hb11, hq6, hb12, hb13, hq7, len_sim ty37 rfl, len_sim ty34 rfl, f19, hb10, reduceLT, reduceEqDiff, reduceAdd, reduceLeDiff, reduceMul, Int.reduceEq]
                        refine hold_intro ?_
                        exact ⟨rfl, by simp only [SB, f19, hb10, reduceLT, reduceEqDiff, reduceAdd, reduceLeDiff, reduceMul, Int.reduceEq], by simp only [SB, f19, hb10, hb11, hq6, hb12, hb13, hq7, len_sim ty37 rfl, len_sim ty34 rfl, reduceLT, reduceEqDiff, reduceAdd, reduceLeDiff, reduceMul, Int.reduceEq]⟩
                      ·
                        have hx8 : (b4 && (decide (nv_6 = (r6.length : Int)))) = false := by simp only [SB, hb11, hq6, hb12, hb13]
                        rw [if_neg (by rw [hx8]; decide)] at kb5
                        have hq8 := (Option.some.inj kb5).symm
                        simp only [SB, hb11, hq6, hb12, hb13, hq8, f19, hb10, reduceLT, reduceEqDiff, reduceAdd, reduceLeDiff, reduceMul, Int.reduceEq]
                        refine callP (w_graph_Graph_Succ kr16) ?_
                        simp only [SB, hb11, hq6, hb12, hb13, hq8, len_sim ty37 rfl, f19, hb10, reduceLT, reduceEqDiff, reduceAdd, reduceLeDiff, reduceMul, Int.reduceEq]
                        refine callP (w_graph_Graph_Pred kr17) ?_
                        simp only [SB, hb11, hq6, hb12, hb13, hq8, len_sim ty37 rfl, len_sim ty34 rfl, f19, hb10, reduceLT, reduceEqDiff, reduceAdd, reduceLeDiff, reduceMul, Int.reduceEq]
                        refine hold_intro ?_
                        exact ⟨rfl, by simp only [SB, f19, hb10, reduceLT, reduceEqDiff, reduceAdd, reduceLeDiff, reduceMul, Int.reduceEq], by simp only [SB, f19, hb10, hb11, hq6, hb12, hb13, hq8, len_sim ty37 rfl, len_sim ty34 rfl, reduceLT, reduceEqDiff, reduceAdd, reduceLeDiff, reduceMul, Int.reduceEq]⟩
                    ·
                      have hx9 : (b4 && (decide (nv_6 = (r6.length : Int)))) = false := by simp only [SB, hb11, hq6, hb12]
                      rw [if_neg (by rw [hx9]; decide)] at kb5
                      have hq9 := (Option.some.inj kb5).symm
                      simp only [SB, hb11, hq6, hb12, hq9, f19, hb10, reduceLT, reduceEqDiff, reduceAdd, reduceLeDiff, reduceMul, Int.reduceEq]
                      refine callP (w_graph_Graph_Succ kr16) ?_
                      simp only [SB, hb11, hq6, hb12, hq9, len_sim ty37 rfl, f19, hb10, reduceLT, reduceEqDiff, reduceAdd, reduceLeDiff, reduceMul, Int.reduceEq]
                      refine callP (w_graph_Graph_Pred kr17) ?_
                      simp only [SB, hb11, hq6, hb12, hq9, len_sim ty37 rfl, f19, hb10, reduceLT, reduceEqDiff, reduceAdd, reduceLeDiff, reduceMul, Int.reduceEq]
                      refine hold_intro ?_
                      exact ⟨rfl, by simp only [SB, f19, hb10, reduceLT, reduceEqDiff, reduceAdd, reduceLeDiff, reduceMul, Int.reduceEq], by simp only [SB, f19, hb10, hb11, hq6, hb12, hq9, len_sim ty37 rfl, reduceLT, reduceEqDiff, reduceAdd, reduceLeDiff, reduceMul, Int.reduceEq]⟩
                  ·
                    have hx10 := hb11
                    rw [if_neg (by rw [hx10]; decide)] at kb4
                    have hq10 := (Option.some.inj kb4).symm
                    have hx11 : (b4 && (decide (nv_6 = (r6.length : Int)))) = false := by simp only [SB, hb11, hq10]
                    rw [if_neg (by rw [hx11]; decide)] at kb5
                    have hq11 := (Option.some.inj kb5).symm
                    simp only [SB, hb11, hq10, hq11, f19, hb10, reduceLT, reduceEqDiff, reduceAdd, reduceLeDiff, reduceMul, Int.reduceEq]
                    refine callP (w_graph_Graph_Succ kr16) ?_
                    simp only [SB, hb11, hq10, hq11, len_sim ty37 rfl, f19, hb10, reduceLT, reduceEqDiff, reduceAdd, reduceLeDiff, reduceMul, Int.reduceEq]
                    refine hold_intro ?_
                    exact ⟨rfl, by simp only [SB, f19, hb10, reduceLT, reduceEqDiff, reduceAdd, reduceLeDiff, reduceMul, Int.reduceEq], by simp only [SB, f19, hb10, hb11, hq10, hq11, len_sim ty37 rfl, reduceLT, reduceEqDiff, reduceAdd, reduceLeDiff, reduceMul, Int.reduceEq]⟩
                · rintro a17 H17 ⟨rfl, kp17, e24⟩
                  have f20 := And.intro f19 (And.intro hb10 (And.intro (KpF kp17) (e24)))
                  refine U_ret ?_
                  replace h := Option.some.inj h
                  subst h
                  refine ⟨.bool b5, by simp only [ires, iress, Try.results3, SB, List.toList_toArray, f20, reduceLT, reduceEqDiff, reduceAdd, reduceLeDiff, reduceMul, Int.reduceEq], ?_⟩
                  exact .cl (closed_bool _)
              ·
                rw [if_neg (by rw [hb10]; decide)] at h
                refine U_condF (by simp only [SB, f19, hb10, reduceLT, reduceEqDiff, reduceAdd, reduceLeDiff, reduceMul, Int.reduceEq]) ?_
                refine U_skip ?_
                refine U_seq ?_
                obtain ⟨b6, kb6, h⟩ := bndO h
                obtain ⟨b7, kb7, h⟩ := bndO h
                refine U_cut (fun a' H' => H15 = H' ∧ Kp [4] 13 a' a16 ∧ a'.get 4 = .bool b7) ?_ ?_
                · refine U_reg ?_
                  rcases Bool.eq_false_or_eq_true (decide (nv_6 = (r6.length : Int))) with hb14 | hb14
                  ·
                    have hx12 := hb14
                    rw [if_pos hx12] at kb6
                    obtain ⟨r19, kr19, kb6⟩ := bndO kb6
                    obtain ⟨r20, kr20, kb6⟩ := bndO kb6
                    obtain ⟨r21, kr21, kb6⟩ := bndO kb6
                    have hq12 := (Option.some.inj kb6).symm
                    rcases Bool.eq_false_or_eq_true (r21) with hb15 | hb15
                    ·
                      have hx13 : b6 = true := by simp only [SB, hb14, hq12, hb15]
                      rw [if_pos hx13] at kb7
                      obtain ⟨r22, kr22, kb7⟩ := bndO kb7
                      have hq13 := (Option.some.inj kb7).symm
                      simp only [SB, hb14, hq12, hb15, hq13, len_sim ty34 rfl, f19, hb10, reduceLT, reduceEqDiff, reduceAdd, reduceLeDiff, reduceMul, Int.reduceEq]
                      refine callP (w_graph_Graph_Order kr19) ?_
                      simp only [SB, hb14, hq12, hb15, hq13, len_sim ty34 rfl, f19, hb10, reduceLT, reduceEqDiff, reduceAdd, reduceLeDiff, reduceMul, Int.reduceEq]
                      refine callP (w_dyehouseref19_Order kr20) ?_
                      simp only [SB, hb14, hq12, hb15, hq13, len_sim ty34 rfl, f19, hb10, reduceLT, reduceEqDiff, reduceAdd, reduceLeDiff, reduceMul, Int.reduceEq]
                      refine callP (w_dyehouseref12_Ints kr21) ?_
                      simp only [SB, hb14, hq12, hb15, hq13, len_sim ty34 rfl, f19, hb10, reduceLT, reduceEqDiff, reduceAdd, reduceLeDiff, reduceMul, Int.reduceEq]
                      refine callP (w_dyehouselaw19_works kr22) ?_
                      simp only [SB, hb14, hq12, hb15, hq13, len_sim ty34 rfl, f19, hb10, reduceLT, reduceEqDiff, reduceAdd, reduceLeDiff, reduceMul, Int.reduceEq]
                      refine hold_intro ?_
                      exact ⟨rfl, by simp only [SB, f19, hb10, reduceLT, reduceEqDiff, reduceAdd, reduceLeDiff, reduceMul, Int.reduceEq], by simp only [SB, f19, hb10, hb14, hq12, hb15, hq13, len_sim ty34 rfl, reduceLT, reduceEqDiff, reduceAdd, reduceLeDiff, reduceMul, Int.reduceEq]⟩
                    ·
                      have hx14 : b6 = false := by simp only [SB, hb14, hq12, hb15]
                      rw [if_neg (by rw [hx14]; decide)] at kb7
                      have hq14 := (Option.some.inj kb7).symm
                      simp only [SB, hb14, hq12, hb15, hq14, len_sim ty34 rfl, f19, hb10, reduceLT, reduceEqDiff, reduceAdd, reduceLeDiff, reduceMul, Int.reduceEq]
                      refine callP (w_graph_Graph_Order kr19) ?_
                      simp only [SB, hb14, hq12, hb15, hq14, len_sim ty34 rfl, f19, hb10, reduceLT, reduceEqDiff, reduceAdd, reduceLeDiff, reduceMul, Int.reduceEq]
                      refine callP (w_dyehouseref19_Order kr20) ?_
                      simp only [SB, hb14, hq12, hb15, hq14, len_sim ty34 rfl, f19, hb10, reduceLT, reduceEqDiff, reduceAdd, reduceLeDiff, reduceMul, Int.reduceEq]
                      refine callP (w_dyehouseref12_Ints kr21) ?_
                      simp only [SB, hb14, hq12, hb15, hq14, len_sim ty34 rfl, f19, hb10, reduceLT, reduceEqDiff, reduceAdd, reduceLeDiff, reduceMul, Int.reduceEq]
                      refine hold_intro ?_
                      exact ⟨rfl, by simp only [SB, f19, hb10, reduceLT, reduceEqDiff, reduceAdd, reduceLeDiff, reduceMul, Int.reduceEq], by simp only [SB, f19, hb10, hb14, hq12, hb15, hq14, len_sim ty34 rfl, reduceLT, reduceEqDiff, reduceAdd, reduceLeDiff, reduceMul, Int.reduceEq]⟩
                  ·
                    have hx15 := hb14
                    rw [if_neg (by rw [hx15]; decide)] at kb6
                    have hq15 := (Option.some.inj kb6).symm
                    have hx16 : b6 = false := by simp only [SB, hb14, hq15]
                    rw [if_neg (by rw [hx16]; decide)] at kb7
                    have hq16 := (Option.some.inj kb7).symm
                    simp only [SB, hb14, hq15, hq16, len_sim ty34 rfl, f19, hb10, reduceLT, reduceEqDiff, reduceAdd, reduceLeDiff, reduceMul, Int.reduceEq]
                    refine hold_intro ?_
                    exact ⟨rfl, by simp only [SB, f19, hb10, reduceLT, reduceEqDiff, reduceAdd, reduceLeDiff, reduceMul, Int.reduceEq], by simp only [SB, f19, hb10, hb14, hq15, hq16, len_sim ty34 rfl, reduceLT, reduceEqDiff, reduceAdd, reduceLeDiff, reduceMul, Int.reduceEq]⟩
                · rintro a18 H18 ⟨rfl, kp18, e25⟩
                  have f21 := And.intro f19 (And.intro hb10 (And.intro (KpF kp18) (e25)))
                  refine U_ret ?_
                  replace h := Option.some.inj h
                  subst h
                  refine ⟨.bool b7, by simp only [ires, iress, Try.results3, SB, List.toList_toArray, f21, reduceLT, reduceEqDiff, reduceAdd, reduceLeDiff, reduceMul, Int.reduceEq], ?_⟩
                  exact .cl (closed_bool _)

theorem w_dyehouselaw19_GraphAway {fuel : Nat} {f_1 : Fnc} {tov_1 : Int} {without_1 : Int} {r0_ : Bool} (h : p_dyehouselaw19_GraphAway fuel f_1 tov_1 without_1 = some r0_) : Pure1 Try.prog 4 [.agg (eFnc f_1), .int .i64 tov_1, .int .i64 without_1] (.bool r0_) := by
  refine Pure1_fz (all_cl (cl_agg (cl_eFnc _)) (all_cl (closed_int _ _) (all_cl (closed_int _ _) all_cl0))) ?_
  refine U_call 0 Try.func4 rfl (by kernel_rfl) (by simp [Try.ntmps4]) ?_
  rw [Try.ntmps4]
  refine U_at (fun a' H' => a'.n = 58 ∧ a'.b = 0 ∧ a'.get 0 = .agg (eFnc f_1) ∧ a'.get 1 = .int .i64 tov_1 ∧ a'.get 2 = .int .i64 without_1) ⟨rfl, rfl, rfl, rfl, rfl⟩ ?_
  rintro a0 H0 ⟨hn0, hn1, e1, e2, e3⟩
  unfold p_dyehouselaw19_GraphAway at h
  have f1 := And.intro hn0 (And.intro hn1 (And.intro e1 (And.intro e2 (e3))))
  refine U_seq ?_
  refine U_reg ?_
  simp only [SB, ty26, sFnc, f1, reduceLT, reduceEqDiff, reduceAdd, reduceLeDiff, reduceMul, Int.reduceEq]
  refine hold_intro ?_
  refine U_seq ?_
  refine U_seq ?_
  refine U_at (fun a' H' => Kp [3, 6] 12 a' a0 ∧ KH [3] H' H0 ∧ a'.get 3 = .pb ⟨3, H0.next (3)⟩ 0 0 ∧ H'.get ⟨3, H0.next (3)⟩ = some ⟨5, [eFnc f_1]⟩) ⟨by simp only [SB, f1, reduceLT, reduceEqDiff, reduceAdd, reduceLeDiff, reduceMul, Int.reduceEq], by simp only [SB, f1, reduceLT, reduceEqDiff, reduceAdd, reduceLeDiff, reduceMul, Int.reduceEq], by simp only [SB, f1, ty26, sFnc, reduceLT, reduceEqDiff, reduceAdd, reduceLeDiff, reduceMul, Int.reduceEq], by simp only [SB, f1, ty26, sFnc, reduceLT, reduceEqDiff, reduceAdd, reduceLeDiff, reduceMul, Int.reduceEq] <;> rfl⟩ ?_
  rintro a1 H1 ⟨kp1, kh1, e4, e5⟩
  have f2 := And.intro f1 (And.intro (KpF kp1) (And.intro (KHF kh1) (And.intro e4 (e5))))
  obtain ⟨r1, kr1, h⟩ := bndO h
  refine U_cut (fun a' H' => H1 = H' ∧ Kp [] 12 a' a1 ∧ a'.get 19 = .bool (r1 || (decide (30 < (f_1.blocks.length : Int))))) ?_ ?_
  · refine U_reg ?_
    rcases Bool.eq_false_or_eq_true (r1) with hb1 | hb1
    ·
      simp only [SB, hb1, ty26, sFnc, f2, reduceLT, reduceEqDiff, reduceAdd, reduceLeDiff, reduceMul, Int.reduceEq]
      refine callP (w_dyehouseref12_Large kr1) ?_
      simp only [SB, hb1, ty26, sFnc, f2, reduceLT, reduceEqDiff, reduceAdd, reduceLeDiff, reduceMul, Int.reduceEq]
      refine hold_intro ?_
      exact ⟨rfl, by simp only [SB, f2, reduceLT, reduceEqDiff, reduceAdd, reduceLeDiff, reduceMul, Int.reduceEq], by simp only [SB, f2, hb1, ty26, sFnc, reduceLT, reduceEqDiff, reduceAdd, reduceLeDiff, reduceMul, Int.reduceEq]⟩
    ·
      simp only [SB, hb1, ty26, sFnc, f2, reduceLT, reduceEqDiff, reduceAdd, reduceLeDiff, reduceMul, Int.reduceEq]
      refine callP (w_dyehouseref12_Large kr1) ?_
      simp only [SB, hb1, ty26, sFnc, ty24, len_sim ty24 rfl, f2, reduceLT, reduceEqDiff, reduceAdd, reduceLeDiff, reduceMul, Int.reduceEq]
      refine hold_intro ?_
      exact ⟨rfl, by simp only [SB, f2, reduceLT, reduceEqDiff, reduceAdd, reduceLeDiff, reduceMul, Int.reduceEq], by simp only [SB, f2, hb1, ty26, sFnc, ty24, len_sim ty24 rfl, reduceLT, reduceEqDiff, reduceAdd, reduceLeDiff, reduceMul, Int.reduceEq]⟩
  · rintro a2 H2 ⟨rfl, kp2, e6⟩
    have f3 := And.intro f2 (And.intro (KpF kp2) (e6))
    rcases Bool.eq_false_or_eq_true ((r1 || (decide (30 < (f_1.blocks.length : Int))))) with hb2 | hb2
    ·
      rw [if_pos hb2] at h
      refine U_condT (by simp only [SB, f3, hb2, reduceLT, reduceEqDiff, reduceAdd, reduceLeDiff, reduceMul, Int.reduceEq]) ?_
      refine U_seq ?_
      obtain ⟨r2, kr2, h⟩ := bndO h
      refine U_reg ?_
      simp only [SB, f3, hb2, reduceLT, reduceEqDiff, reduceAdd, reduceLeDiff, reduceMul, Int.reduceEq]
      refine callP (w_dyehouselaw19_works kr2) ?_
      simp only [SB, f3, hb2, reduceLT, reduceEqDiff, reduceAdd, reduceLeDiff, reduceMul, Int.reduceEq]
      refine hold_intro ?_
      refine U_ret ?_
      replace h := Option.some.inj h
      subst h
      refine ⟨.bool r2, by simp only [ires, iress, Try.results4, SB, List.toList_toArray, f3, hb2, reduceLT, reduceEqDiff, reduceAdd, reduceLeDiff, reduceMul, Int.reduceEq], ?_⟩
      exact .cl (closed_bool _)
    ·
      rw [if_neg (by rw [hb2]; decide)] at h
      refine U_condF (by simp only [SB, f3, hb2, reduceLT, reduceEqDiff, reduceAdd, reduceLeDiff, reduceMul, Int.reduceEq]) ?_
      refine U_skip ?_
      refine U_seq ?_
      obtain ⟨r3, kr3, h⟩ := bndO h
      refine U_reg ?_
      simp only [SB, ty26, sFnc, f3, hb2, reduceLT, reduceEqDiff, reduceAdd, reduceLeDiff, reduceMul, Int.reduceEq]
      refine callP (w_dyehouseref19_Succ kr3) ?_
      simp only [SB, ty26, sFnc, f3, hb2, reduceLT, reduceEqDiff, reduceAdd, reduceLeDiff, reduceMul, Int.reduceEq]
      refine hold_intro ?_
      refine U_seq ?_
      obtain ⟨r4, kr4, h⟩ := bndO h
      obtain ⟨r5, kr5, h⟩ := bndO h
      refine U_reg ?_
      simp only [SB, ty26, sFnc, f3, hb2, reduceLT, reduceEqDiff, reduceAdd, reduceLeDiff, reduceMul, Int.reduceEq]
      refine callP (w_graph_New kr4) ?_
      simp only [SB, ty26, sFnc, f3, hb2, reduceLT, reduceEqDiff, reduceAdd, reduceLeDiff, reduceMul, Int.reduceEq]
      refine callP (w_graph_Graph_Away kr5) ?_
      simp only [SB, ty26, sFnc, f3, hb2, reduceLT, reduceEqDiff, reduceAdd, reduceLeDiff, reduceMul, Int.reduceEq]
      refine hold_intro ?_
      refine U_seq ?_
      refine U_seq ?_
      refine U_reg ?_
      simp only [SB, f3, hb2, reduceLT, reduceEqDiff, reduceAdd, reduceLeDiff, reduceMul, Int.reduceEq]
      refine hold_intro ?_
      refine U_at (fun a' H' => Kp [7, 8, 9] 12 a' a2 ∧ H1 = H' ∧ a'.get 7 = .sim (r3.map (eS eInt)) false ∧ a'.get 8 = .pim [ebits_Set r5] 0 0 ∧ a'.get 9 = .int .i64 0) ⟨by simp only [SB, f3, hb2, reduceLT, reduceEqDiff, reduceAdd, reduceLeDiff, reduceMul, Int.reduceEq], rfl, by simp only [SB, f3, hb2, reduceLT, reduceEqDiff, reduceAdd, reduceLeDiff, reduceMul, Int.reduceEq], by simp only [SB, f3, hb2, reduceLT, reduceEqDiff, reduceAdd, reduceLeDiff, reduceMul, Int.reduceEq], by simp only [SB, f3, hb2, reduceLT, reduceEqDiff, reduceAdd, reduceLeDiff, reduceMul, Int.reduceEq]⟩ ?_
      rintro a3 H3 ⟨kp3, rfl, e7, e8, e9⟩
      have f4 := And.intro f3 (And.intro hb2 (And.intro (KpF kp3) (And.intro e7 (And.intro e8 (e9)))))
      obtain ⟨u1, he1, h⟩ := bndE h
      obtain ⟨hhi1, hlo1, he1⟩ := toE_facts he1
      refine U_cut (fun a' H' => u1 = .n () ∧ Kp [6, 9, 10, 11] 12 a' a3 ∧ KH [] H' H1) (U_block (U_loop (fun y a' H' => match y with | i1 => forE ((r3.length : Int) - i1).toNat i1 (fun i _ => p_dyehouselaw19_GraphAway_b1 fuel tov_1 without_1 r3 r5 i) () = some u1 ∧ 0 ≤ i1 ∧ Kp [6, 9, 10, 11] 12 a' a3 ∧ KH [] H' H1 ∧ a'.get 9 = .int .i64 i1 : Int → Fr → Heap → Prop) (fun y : Int => ((r3.length : Int) - y).toNat) 0 ?_ ?_)) ?_
      · exact ⟨he1, Int.le_refl _, by simp only [SB, f4, reduceLT, reduceEqDiff, reduceAdd, reduceLeDiff, reduceMul, Int.reduceEq], by simp only [SB, f4, reduceLT, reduceEqDiff, reduceAdd, reduceLeDiff, reduceMul, Int.reduceEq], by simp only [SB, f4, reduceLT, reduceEqDiff, reduceAdd, reduceLeDiff, reduceMul, Int.reduceEq]⟩
      ·
        rintro i1 a4 H4 ⟨hf2, hl1, kp4, kh3, e10⟩
        by_cases hlt1 : i1 < (r3.length : Int)
        ·
          obtain ⟨u2, hr1, hl2⟩ := forE_step hf2 hlt1
          replace hr1 : p_dyehouselaw19_GraphAway_b1 fuel tov_1 without_1 r3 r5 i1 = some u2 := hr1
          unfold p_dyehouselaw19_GraphAway_b1 at hr1
          have hw1 := wrap_next hlt1 hhi1 hlo1 hl1
          have hlt1_t : decide (i1 < (r3.length : Int)) = true := decide_eq_true hlt1
          have f5 := And.intro f4 (And.intro (KpF kp4) (And.intro (KHF kh3) (And.intro e10 (And.intro hw1 (hlt1_t)))))
          refine U_seq (U_seq ?_)
          refine U_reg ?_
          simp only [SB, len_sim ty31 rfl, f5, reduceLT, reduceEqDiff, reduceAdd, reduceLeDiff, reduceMul, Int.reduceEq]
          refine hold_intro ?_
          refine U_condT (by simp only [SB, f5, len_sim ty31 rfl, reduceLT, reduceEqDiff, reduceAdd, reduceLeDiff, reduceMul, Int.reduceEq]) (U_skip ?_)
          refine U_seq ?_
          refine U_block ?_
          refine U_seq ?_
          obtain ⟨r6, kr6, hr1⟩ := bndO hr1
          refine U_reg ?_
          simp only [SB, f5, reduceLT, reduceEqDiff, reduceAdd, reduceLeDiff, reduceMul, Int.reduceEq]
          refine callP (w_dyehouseref19_Reach kr6) ?_
          simp only [SB, f5, reduceLT, reduceEqDiff, reduceAdd, reduceLeDiff, reduceMul, Int.reduceEq]
          refine hold_intro ?_
          refine U_seq ?_
          refine U_at (fun a' H' => Kp [10] 12 a' a4 ∧ H4 = H' ∧ a'.get 10 = .sim (r6.map eBool) false) ⟨by simp only [SB, f5, reduceLT, reduceEqDiff, reduceAdd, reduceLeDiff, reduceMul, Int.reduceEq], rfl, by simp only [SB, f5, reduceLT, reduceEqDiff, reduceAdd, reduceLeDiff, reduceMul, Int.reduceEq]⟩ ?_
          rintro a5 H5 ⟨kp5, rfl, e11⟩
          have f6 := And.intro f5 (And.intro (KpF kp5) (e11))
          obtain ⟨b1, kb1, hr1⟩ := bndO hr1
          refine U_cut (fun a' H' => H4 = H' ∧ Kp [11] 12 a' a5 ∧ a'.get 11 = .bool b1) ?_ ?_
          · refine U_reg ?_
            rcases Bool.eq_false_or_eq_true (decide (0 ≤ tov_1)) with hb3 | hb3
            ·
              rcases Bool.eq_false_or_eq_true (decide (tov_1 < (r3.length : Int))) with hb4 | hb4
              ·
                have hx1 : ((decide (0 ≤ tov_1)) && (decide (tov_1 < (r3.length : Int)))) = true := by simp only [SB, hb3, hb4]
                rw [if_pos hx1] at kb1
                obtain ⟨x1, kx1, kb1⟩ := bndO kb1
                have hq1 := (Option.some.inj kb1).symm
                simp only [SB, hb3, hb4, hq1, len_sim ty31 rfl, ty42, ty4, iia_sim (f := eBool) ty42 rfl ty4 kx1 rfl, row_sim (f := eBool) kx1, f6, reduceLT, reduceEqDiff, reduceAdd, reduceLeDiff, reduceMul, Int.reduceEq]
                refine hold_intro ?_
                exact ⟨rfl, by simp only [SB, f6, reduceLT, reduceEqDiff, reduceAdd, reduceLeDiff, reduceMul, Int.reduceEq], by simp only [SB, f6, hb3, hb4, hq1, len_sim ty31 rfl, ty42, ty4, iia_sim (f := eBool) ty42 rfl ty4 kx1 rfl, row_sim (f := eBool) kx1, reduceLT, reduceEqDiff, reduceAdd, reduceLeDiff, reduceMul, Int.reduceEq]⟩
              ·
                have hx2 : ((decide (0 ≤ tov_1)) && (decide (tov_1 < (r3.length : Int)))) = false := by simp only [SB, hb3, hb4]
                rw [if_neg (by rw [hx2]; decide)] at kb1
                have hq2 := (Option.some.inj kb1).symm
                simp only [SB, hb3, hb4, hq2, len_sim ty31 rfl, f6, reduceLT, reduceEqDiff, reduceAdd, reduceLeDiff, reduceMul, Int.reduceEq]
                refine hold_intro ?_
                exact ⟨rfl, by simp only [SB, f6, reduceLT, reduceEqDiff, reduceAdd, reduceLeDiff, reduceMul, Int.reduceEq], by simp only [SB, f6, hb3, hb4, hq2, len_sim ty31 rfl, reduceLT, reduceEqDiff, reduceAdd, reduceLeDiff, reduceMul, Int.reduceEq]⟩
            ·
              have hx3 : ((decide (0 ≤ tov_1)) && (decide (tov_1 < (r3.length : Int)))) = false := by simp only [SB, hb3]
              rw [if_neg (by rw [hx3]; decide)] at kb1
              have hq3 := (Option.some.inj kb1).symm
              simp only [SB, hb3, hq3, f6, reduceLT, reduceEqDiff, reduceAdd, reduceLeDiff, reduceMul, Int.reduceEq]
              refine hold_intro ?_
              exact ⟨rfl, by simp only [SB, f6, reduceLT, reduceEqDiff, reduceAdd, reduceLeDiff, reduceMul, Int.reduceEq], by simp only [SB, f6, hb3, hq3, reduceLT, reduceEqDiff, reduceAdd, reduceLeDiff, reduceMul, Int.reduceEq]⟩
          · rintro a6 H6 ⟨rfl, kp6, e12⟩
            have f7 := And.intro f6 (And.intro (KpF kp6) (e12))
            refine U_seq ?_
            obtain ⟨r7, kr7, hr1⟩ := bndO hr1
            refine U_reg ?_
            simp only [SB, f7, reduceLT, reduceEqDiff, reduceAdd, reduceLeDiff, reduceMul, Int.reduceEq]
            refine callP (w_bits_Set_Has kr7) ?_
            simp only [SB, bin_bool (P := Try.prog) ty4 rfl, f7, reduceLT, reduceEqDiff, reduceAdd, reduceLeDiff, reduceMul, Int.reduceEq]
            refine hold_intro ?_
            rcases Bool.eq_false_or_eq_true ((r7 != b1)) with hb5 | hb5
            ·
              rw [if_pos hb5] at hr1
              refine U_condT (by simp only [SB, f7, hb5, bin_bool (P := Try.prog) ty4 rfl, reduceLT, reduceEqDiff, reduceAdd, reduceLeDiff, reduceMul, Int.reduceEq]) ?_
              refine U_seq ?_
              refine U_reg ?_
              simp only [SB, f7, hb5, reduceLT, reduceEqDiff, reduceAdd, reduceLeDiff, reduceMul, Int.reduceEq]
              refine hold_intro ?_
              refine U_ret ?_
              replace hr1 := Option.some.inj hr1
              subst hr1
              replace hl2 : u1 = .r _ := hl2
              subst hl2
              replace h := outE_r h
              replace h := Option.some.inj h
              subst h
              refine ⟨.bool false, by simp only [ires, iress, Try.results4, SB, List.toList_toArray, f7, hb5, reduceLT, reduceEqDiff, reduceAdd, reduceLeDiff, reduceMul, Int.reduceEq], ?_⟩
              exact .cl (closed_bool _)
            ·
              rw [if_neg (by rw [hb5]; decide)] at hr1
              refine U_condF (by simp only [SB, f7, hb5, bin_bool (P := Try.prog) ty4 rfl, reduceLT, reduceEqDiff, reduceAdd, reduceLeDiff, reduceMul, Int.reduceEq]) ?_
              refine U_skip ?_
              refine U_reg ?_
              simp only [SB, f7, hb5, reduceLT, reduceEqDiff, reduceAdd, reduceLeDiff, reduceMul, Int.reduceEq]
              refine hold_intro ?_
              replace hr1 := Option.some.inj hr1
              subst hr1
              refine ⟨i1 + 1, ?_, hl2, Int.le_add_one hl1, by simp only [SB, f7, hb5, reduceLT, reduceEqDiff, reduceAdd, reduceLeDiff, reduceMul, Int.reduceEq], by simp only [SB, f7, hb5, reduceLT, reduceEqDiff, reduceAdd, reduceLeDiff, reduceMul, Int.reduceEq], by simp only [SB, f7, hb5, reduceLT, reduceEqDiff, reduceAdd, reduceLeDiff, reduceMul, Int.reduceEq]⟩
              show ((r3.length : Int) - (i1 + 1)).toNat < ((r3.length : Int) - i1).toNat; omega
        ·
          have hlt1_e := forE_end hf2 hlt1
          have hlt1_t : decide (i1 < (r3.length : Int)) = false := decide_eq_false hlt1
          have f8 := And.intro f4 (And.intro (KpF kp4) (And.intro (KHF kh3) (And.intro e10 (hlt1_t))))
          refine U_seq (U_seq ?_)
          refine U_reg ?_
          simp only [SB, len_sim ty31 rfl, f8, reduceLT, reduceEqDiff, reduceAdd, reduceLeDiff, reduceMul, Int.reduceEq]
          refine hold_intro ?_
          refine U_condF (by simp only [SB, f8, len_sim ty31 rfl, reduceLT, reduceEqDiff, reduceAdd, reduceLeDiff, reduceMul, Int.reduceEq]) (U_exit rfl ?_)
          exact ⟨hlt1_e, by simp only [SB, f8, reduceLT, reduceEqDiff, reduceAdd, reduceLeDiff, reduceMul, Int.reduceEq], by simp only [SB, f8, reduceLT, reduceEqDiff, reduceAdd, reduceLeDiff, reduceMul, Int.reduceEq]⟩
      ·
        rintro a7 H7 ⟨rfl, kp7, kh5⟩
        replace h := outE_n h
        have f9 := And.intro f4 (And.intro (KpF kp7) ((KHF kh5)))
        refine U_seq ?_
        obtain ⟨r8, kr8, h⟩ := bndO h
        refine U_reg ?_
        simp only [SB, f9, reduceLT, reduceEqDiff, reduceAdd, reduceLeDiff, reduceMul, Int.reduceEq]
        refine callP (w_dyehouselaw19_works kr8) ?_
        simp only [SB, f9, reduceLT, reduceEqDiff, reduceAdd, reduceLeDiff, reduceMul, Int.reduceEq]
        refine hold_intro ?_
        refine U_ret ?_
        replace h := Option.some.inj h
        subst h
        refine ⟨.bool r8, by simp only [ires, iress, Try.results4, SB, List.toList_toArray, f9, reduceLT, reduceEqDiff, reduceAdd, reduceLeDiff, reduceMul, Int.reduceEq], ?_⟩
        exact .cl (closed_bool _)

end Go.Proofs.Ytodafoajkajnkaa.IL
