/- The code of functions computes the pure ones. Printed by tq.py. -/
import Derived.Test.YtodafoajkajnkaaAskX1
import Derived.Test.YtodafoajkajnkaaQT
import Derived.Test.YtodafoajkajnkaaSL
import Derived.Test.YtodafoajkajnkaaAskP
set_option linter.unusedVariables false
set_option linter.unusedSimpArgs false
set_option linter.defProp false
set_option maxRecDepth 100000
set_option maxHeartbeats 2000000
namespace Go.Proofs.Ytodafoajkajnkaa.IL
open Go Go.RowKit PL
open Nat renaming reduceLT → n1, reduceEqDiff → n2, reduceAdd → n3, reduceLeDiff → n4, reduceMul → n5
open Int renaming reduceEq → n6
theorem w_dyehouselaw12_works {fuel : Nat} {r0_ : Bool} (h : p_dyehouselaw12_works fuel = some r0_) : Pure1 Try.prog 32 [] (.bool r0_) := by
  refine Pure1_S all_cl0 fun F H s0 => ?_
  refine U_call 0 Try.func32 rfl (by kernel_rfl) (by simp [Try.ntmps32]) ?_
  rw [Try.ntmps32]
  refine U_fr 120 [] rfl rfl rfl ?_
  unfold p_dyehouselaw12_works at h
  refine U_seq ?_
  refine U_reg ?_
  simp only [SQ, n1, n2, n3, n4, n5, n6]
  refine hold_intro ?_
  refine U_seq ?_
  refine U_reg ?_
  simp only [SQ, n1, n2, n3, n4, n5, n6]
  refine hold_intro ?_
  refine U_seq ?_
  obtain ⟨r1, kr1, h⟩ := bndO h
  obtain ⟨r2, kr2, h⟩ := bndO h
  refine U_reg ?_
  simp only [SQ, n1, n2, n3, n4, n5, n6]
  refine callP (w_dyehouselaw12_works_1 kr1) ?_
  simp only [SQ, n1, n2, n3, n4, n5, n6]
  refine callP (w_dyehouselaw12_works_1 kr2) ?_
  simp only [SQ, n1, n2, n3, n4, n5, n6]
  refine callP (w_dyehouselaw12_works_1 kr2) ?_
  simp only [SQ, ty23, ty58, sOpd, n1, n2, n3, n4, n5, n6]
  refine N_sl ([r2, r2] : List Opd) R58i s0 rfl rfl (by first | rfl | simp only [SQ]) (by first | rfl | simp only [List.length_map, List.length_replicate]) (zip_flat rfl) ?_
  intro v1 H1 s1
  simp only [SQ, ty66, xOpd, s1.cf 0 rfl, fk66, n1, n2, n3, n4, n5, n6]
  refine N_box s1 rfl fun d2 H2 s2 => ?_
  simp only [SQ, ty66, s2.cf 1 rfl, s2.b 0 rfl, n1, n2, n3, n4, n5, n6]
  refine N_put 0 s2 rfl fun H3 s3 => ?_
  simp only [SQ, n1, n2, n3, n4, n5, n6]
  refine hold_intro ?_
  refine U_seq ?_
  refine U_fr 120 [(1, .fn (.func 93) [] []), (2, .pb d2 0 0)] rfl rfl rfl ?_
  refine U_fzS (l' := [(1, .fn (.func 93) [] []), (2, .pb d2 0 0)]) (M := [pt d2 ⟨10, [[.int .i64 1, .int .i64 r1.kind, .int .i64 r1.cls, .int .i64 r1.n, .int .i64 r1.tag, .sim (([r2, r2] : List Opd).map eOpd) false, .str (⟨#[]⟩ : ByteArray), .int .i64 0, .nils, .nils]]⟩]) 1 s3 rfl R58i_nl .id (.r (.s (.s (.s (.s (.s (.x .o (.s (.s (.s (.s .id)))))))))) .id) fun H4 s4 => ?_
  refine U_drawQ hm [0, 0, 3, 0, 8, 24, 0, 0, 192, 448, 960, 2047, 0, 8191] false 13 (by decide +kernel) (by decide) ?_
  simp only [SQ, ty84, fk84, ty22, n1, n2, n3, n4, n5, n6]
  refine N_sl ([(⟨2, 0⟩ : Rg), (⟨7, 1⟩ : Rg)] : List Rg) R84i s4 rfl rfl (by first | rfl | simp only [SQ]) (by first | rfl | simp only [List.length_map, List.length_replicate]) (zip_flat rfl) ?_
  intro v2 H5 s5
  simp only [SQ, n1, n2, n3, n4, n5, n6]
  refine callP (w_dyehouselaw12_works_1 kr2) ?_
  simp only [SQ, ty23, ty58, sOpd, n1, n2, n3, n4, n5, n6]
  refine N_sl ([r2] : List Opd) R58i s5 rfl rfl (by first | rfl | simp only [SQ]) (by first | rfl | simp only [List.length_map, List.length_replicate]) (zip_flat rfl) ?_
  intro v3 H6 s6
  simp only [SQ, ty66, s6.b 2 rfl, fk66, ty61, n1, n2, n3, n4, n5, n6]
  refine N_lit s6 rfl fun d5 H7 s7 => ?_
  simp only [SQ, ty63, fk63, ty24, n1, n2, n3, n4, n5, n6]
  refine N_lit s7 rfl fun d6 H8 s8 => ?_
  simp only [SQ, ty26, s8.cf 3 rfl, s8.cf 2 rfl, fk26, n1, n2, n3, n4, n5, n6]
  refine N_box s8 rfl fun d7 H9 s9 => ?_
  simp only [SQ, ty26, s9.cf 4 rfl, s9.cf 3 rfl, s9.b 0 rfl, n1, n2, n3, n4, n5, n6]
  refine N_put 0 s9 rfl fun H10 s10 => ?_
  simp only [SQ, n1, n2, n3, n4, n5, n6]
  refine hold_intro ?_
  refine U_fr 120 [(1, .fn (.func 93) [] []), (2, .pb d2 0 0), (3, .pb d7 0 0)] rfl rfl rfl ?_
  refine U_rowsN (f := eIns) (fl := true) (hm := fun _ => rfl) (hc := cl_eIns) ([(⟨1, r1, ([r2, r2] : List Opd), (⟨#[]⟩ : ByteArray), 0, [], []⟩ : Ins), (⟨19, (⟨0, 0, 0, 0⟩ : Opd), [], (⟨#[113]⟩ : ByteArray), 0, [], []⟩ : Ins)] : List Ins) 2 s10 rfl rfl rfl (Sbr.get (.c (.s (.s (.s (.s (.s (.s (.s (.s (.x .n (.x .n .nil)))))))))) (.c (.s (.s (.s (.s (.s (.x .n (.s (.s (.x .n (.x .n .nil)))))))))) .nil))) fun H11 s11 => ?_
  refine U_seq ?_
  obtain ⟨⟨r3, r4⟩, kr3, h⟩ := bndO h
  dsimp only at h
  refine U_reg ?_
  simp only [SQ, ty66, s11.b 5 rfl, n1, n2, n3, n4, n5, n6]
  refine callP (Pure1.sub (w_ir_Def kr3) ((Subs.cons (Sub_agg ((Subs.cons Sub.refl (Subs.cons Sub.refl (Subs.cons Sub.refl (Subs.cons Sub.refl (Subs.cons Sub.refl (Subs.cons Sub.refl (Subs.cons Sub.refl (Subs.cons Sub.refl (Subs.cons sub_nils (Subs.cons sub_nils Subs.nil)))))))))))) Subs.nil)) ((all_cl (closed_agg ((all_cl (closed_int _ _) (all_cl (closed_int _ _) (all_cl (closed_int _ _) (all_cl (closed_int _ _) (all_cl (closed_int _ _) (all_cl (cl_map cl_eOpd ([r2, r2] : List Opd)) (all_cl (closed_str _) (all_cl (closed_int _ _) (all_cl (closed_nils) (all_cl (closed_nils) all_cl0)))))))))))) all_cl0))) ?_
  have s12 := s11.nil' R58i
  have s13 := s12.fold [2, 0, 3, 1, 4, 5, 6] 3 (by decide) (fold_lit (R := R63t2si3sie) (xs := ([(⟨(⟨#[97]⟩ : ByteArray), false, ([] : List Opd), ([(⟨1, r1, ([r2, r2] : List Opd), (⟨#[]⟩ : ByteArray), 0, [], []⟩ : Ins), (⟨19, (⟨0, 0, 0, 0⟩ : Opd), [], (⟨#[113]⟩ : ByteArray), 0, [], []⟩ : Ins)] : List Ins)⟩ : Bl)] : List Bl)) rfl rfl rfl (lit_cons (R63t2si3sie_f (x := (⟨(⟨#[97]⟩ : ByteArray), false, ([] : List Opd), ([(⟨1, r1, ([r2, r2] : List Opd), (⟨#[]⟩ : ByteArray), 0, [], []⟩ : Ins), (⟨19, (⟨0, 0, 0, 0⟩ : Opd), [], (⟨#[113]⟩ : ByteArray), 0, [], []⟩ : Ins)] : List Ins)⟩ : Bl))) lit_nil))
  simp only [SQ, n1, n2, n3, n4, n5, n6]
  refine hold_intro ?_
  refine U_seq ?_
  obtain ⟨⟨r5, r6⟩, kr5, h⟩ := bndO h
  dsimp only at h
  refine U_reg ?_
  simp only [SQ, ty26, s13.b 1 rfl, n1, n2, n3, n4, n5, n6]
  refine callLd (w_ir_Class kr5) (.cons (Fz_agg (.cons (.cl (closed_bool _)) (.cons (.cl (closed_str _)) (.cons (s13.fzS 3 rfl) (.cons (s13.fzS 2 rfl) (.cons (s13.fzS 0 rfl) (.nil))))))) (.cons (.cl (closed_int _ _)) (.nil))) (flat_tup ((flA (flat_int _ _) (flA (flat_bool _) fl0)))) ?_
  simp only [SQ, n1, n2, n3, n4, n5, n6]
  refine hold_intro ?_
  refine U_seq ?_
  refine U_fr 120 [(2, .pb d2 0 0), (3, .pb d7 0 0), (4, .int .i64 r3), (5, .bool r4), (6, .int .i64 r5), (7, .bool r6)] rfl rfl rfl ?_
  obtain ⟨r7, kr7, h⟩ := bndO h
  obtain ⟨⟨r8, r9⟩, kr8, h⟩ := bndO h
  dsimp only at h
  refine U_reg ?_
  simp only [SQ, ty134, fk134, n1, n2, n3, n4, n5, n6]
  refine callP (w_ir_Put kr7) ?_
  simp only [SQ, n1, n2, n3, n4, n5, n6]
  refine callP (w_ir_At kr8) ?_
  simp only [SQ, ty134, n1, n2, n3, n4, n5, n6]
  refine N_box s13 rfl fun d8 H12 s14 => ?_
  simp only [SQ, ty134, sLc, splice_all', s14.b 0 rfl, n1, n2, n3, n4, n5, n6]
  refine N_put 0 s14 rfl fun H13 s15 => ?_
  simp only [SQ, n1, n2, n3, n4, n5, n6]
  refine hold_intro ?_
  refine U_seq ?_
  refine U_reg ?_
  simp only [SQ, ty3, n1, n2, n3, n4, n5, n6]
  refine N_box s15 rfl fun d9 H14 s16 => ?_
  simp only [SQ, ty3, s16.b 0 rfl, n1, n2, n3, n4, n5, n6]
  refine N_put 0 s16 rfl fun H15 s17 => ?_
  simp only [SQ, n1, n2, n3, n4, n5, n6]
  refine hold_intro ?_
  refine U_seq ?_
  refine U_fr 120 [(2, .pb d2 0 0), (3, .pb d7 0 0), (4, .int .i64 r3), (5, .bool r4), (6, .int .i64 r5), (7, .bool r6), (8, .pb d8 0 0), (9, .bool r9), (10, .pb d9 0 0)] rfl rfl rfl ?_
  refine U_fzS (l' := [(2, .pb d2 0 0), (3, .pb d7 0 0), (4, .int .i64 r3), (5, .bool r4), (6, .int .i64 r5), (7, .bool r6), (8, .pb d8 0 0), (9, .bool r9), (10, .pb d9 0 0)]) (M := [pt d9 ⟨1, [[.int .i64 0]]⟩, pt d8 ⟨3, [eLc r8]⟩, sl R63t2si3sie (.sb d6 0 1 true) ([(⟨(⟨#[97]⟩ : ByteArray), false, ([] : List Opd), ([(⟨1, r1, ([r2, r2] : List Opd), (⟨#[]⟩ : ByteArray), 0, [], []⟩ : Ins), (⟨19, (⟨0, 0, 0, 0⟩ : Opd), [], (⟨#[113]⟩ : ByteArray), 0, [], []⟩ : Ins)] : List Ins)⟩ : Bl)] : List Bl), pt d7 ⟨5, [[.bool false, .str (⟨#[102]⟩ : ByteArray), .sim (([(⟨2, 0⟩ : Rg), (⟨7, 1⟩ : Rg)] : List Rg).map eRg) false, v3, .sb d6 0 1 true]]⟩, sl R58i v3 ([r2] : List Opd), pt d2 ⟨10, [[.int .i64 1, .int .i64 r1.kind, .int .i64 r1.cls, .int .i64 r1.n, .int .i64 r1.tag, .sim (([r2, r2] : List Opd).map eOpd) false, .str (⟨#[]⟩ : ByteArray), .int .i64 0, .nils, .nils]]⟩]) 5 s17 rfl R84i_nl .id (.s (.s (.s (.r (.s (.s (.x .o (.s (.s .id))))) .id)))) fun H16 s18 => ?_
  refine U_fr 120 [(2, .pb d2 0 0), (3, .pb d7 0 0), (4, .int .i64 r3), (5, .bool r4), (6, .int .i64 r5), (7, .bool r6), (8, .pb d8 0 0), (9, .bool r9), (10, .pb d9 0 0)] rfl rfl rfl ?_
  refine U_fzS (l' := [(2, .pb d2 0 0), (3, .pb d7 0 0), (4, .int .i64 r3), (5, .bool r4), (6, .int .i64 r5), (7, .bool r6), (8, .pb d8 0 0), (9, .bool r9), (10, .pb d9 0 0)]) (M := [pt d9 ⟨1, [[.int .i64 0]]⟩, pt d8 ⟨3, [eLc r8]⟩, sl R63t2si3sie (.sb d6 0 1 true) ([(⟨(⟨#[97]⟩ : ByteArray), false, ([] : List Opd), ([(⟨1, r1, ([r2, r2] : List Opd), (⟨#[]⟩ : ByteArray), 0, [], []⟩ : Ins), (⟨19, (⟨0, 0, 0, 0⟩ : Opd), [], (⟨#[113]⟩ : ByteArray), 0, [], []⟩ : Ins)] : List Ins)⟩ : Bl)] : List Bl), pt d7 ⟨5, [[.bool false, .str (⟨#[102]⟩ : ByteArray), .sim (([(⟨2, 0⟩ : Rg), (⟨7, 1⟩ : Rg)] : List Rg).map eRg) false, .sim (([r2] : List Opd).map eOpd) false, .sb d6 0 1 true]]⟩, pt d2 ⟨10, [[.int .i64 1, .int .i64 r1.kind, .int .i64 r1.cls, .int .i64 r1.n, .int .i64 r1.tag, .sim (([r2, r2] : List Opd).map eOpd) false, .str (⟨#[]⟩ : ByteArray), .int .i64 0, .nils, .nils]]⟩]) 4 s18 rfl R58i_nl .id (.s (.s (.s (.r (.s (.s (.s (.x .o (.s .id))))) .id)))) fun H17 s19 => ?_
  refine U_fr 120 [(2, .pb d2 0 0), (3, .pb d7 0 0), (4, .int .i64 r3), (5, .bool r4), (6, .int .i64 r5), (7, .bool r6), (8, .pb d8 0 0), (9, .bool r9), (10, .pb d9 0 0)] rfl rfl rfl ?_
  refine U_fzS (l' := [(2, .pb d2 0 0), (3, .pb d7 0 0), (4, .int .i64 r3), (5, .bool r4), (6, .int .i64 r5), (7, .bool r6), (8, .pb d8 0 0), (9, .bool r9), (10, .pb d9 0 0)]) (M := [pt d9 ⟨1, [[.int .i64 0]]⟩, pt d8 ⟨3, [eLc r8]⟩, pt d7 ⟨5, [[.bool false, .str (⟨#[102]⟩ : ByteArray), .sim (([(⟨2, 0⟩ : Rg), (⟨7, 1⟩ : Rg)] : List Rg).map eRg) false, .sim (([r2] : List Opd).map eOpd) false, .sim (([(⟨(⟨#[97]⟩ : ByteArray), false, ([] : List Opd), ([(⟨1, r1, ([r2, r2] : List Opd), (⟨#[]⟩ : ByteArray), 0, [], []⟩ : Ins), (⟨19, (⟨0, 0, 0, 0⟩ : Opd), [], (⟨#[113]⟩ : ByteArray), 0, [], []⟩ : Ins)] : List Ins)⟩ : Bl)] : List Bl).map eBl) false]]⟩, pt d2 ⟨10, [[.int .i64 1, .int .i64 r1.kind, .int .i64 r1.cls, .int .i64 r1.n, .int .i64 r1.tag, .sim (([r2, r2] : List Opd).map eOpd) false, .str (⟨#[]⟩ : ByteArray), .int .i64 0, .nils, .nils]]⟩]) 2 s19 rfl R63t2si3sie_nl .id (.s (.s (.r (.s (.s (.s (.s (.x .o .id))))) .id))) fun H18 s20 => ?_
  obtain ⟨r10, kr10, h⟩ := bndO h
  refine U_reg ?_
  simp only [SQ, ty26, s20.b 2 rfl, n1, n2, n3, n4, n5, n6]
  refine callP (w_ir_Operands kr10) ?_
  simp only [SQ, n1, n2, n3, n4, n5, n6]
  refine hold_intro ?_
  refine U_seq ?_
  refine U_seq ?_
  refine U_fr 120 [(2, .pb d2 0 0), (3, .pb d7 0 0), (4, .int .i64 r3), (5, .bool r4), (6, .int .i64 r5), (7, .bool r6), (8, .pb d8 0 0), (9, .bool r9), (10, .pb d9 0 0), (11, .fn (.func 101) [] [.pim [eFnc r10] 0 0])] rfl rfl rfl ?_
  refine U_reg ?_
  simp only [SQ, ty70, fn_nil (P := Try.prog) ty70 rfl, n1, n2, n3, n4, n5, n6]
  refine hold_intro ?_
  refine U_condF rfl ?_
  refine U_skip ?_
  refine U_seq ?_
  refine U_seq ?_
  refine U_reg ?_
  simp only [SQ, n1, n2, n3, n4, n5, n6]
  refine hold_intro ?_
  refine U_block ?_
  refine U_fr 120 [(2, .pb d2 0 0), (3, .pb d7 0 0), (4, .int .i64 r3), (5, .bool r4), (6, .int .i64 r5), (7, .bool r6), (8, .pb d8 0 0), (9, .bool r9), (10, .pb d9 0 0), (52, .fn (.func 101) [] [.pim [eFnc r10] 0 0])] rfl rfl rfl ?_
  obtain ⟨xs1, kxs1, h⟩ := bndO h
  obtain ⟨u1, he1, h⟩ := bndX h
  refine U_rangeE (σ := Int) (L0 := []) (fun z_ : Int => match z_ with | c1 => [pt d9 ⟨1, [[.int .i64 c1]]⟩, pt d2 ⟨10, [[.int .i64 1, .int .i64 r1.kind, .int .i64 r1.cls, .int .i64 r1.n, .int .i64 r1.tag, .sim (([r2, r2] : List Opd).map eOpd) false, .str (⟨#[]⟩ : ByteArray), .int .i64 0, .nils, .nils]]⟩, pt d7 ⟨5, [[.bool false, .str (⟨#[102]⟩ : ByteArray), .sim (([(⟨2, 0⟩ : Rg), (⟨7, 1⟩ : Rg)] : List Rg).map eRg) false, .sim (([r2] : List Opd).map eOpd) false, .sim (([(⟨(⟨#[97]⟩ : ByteArray), false, ([] : List Opd), ([(⟨1, r1, ([r2, r2] : List Opd), (⟨#[]⟩ : ByteArray), 0, [], []⟩ : Ins), (⟨19, (⟨0, 0, 0, 0⟩ : Opd), [], (⟨#[113]⟩ : ByteArray), 0, [], []⟩ : Ins)] : List Ins)⟩ : Bl)] : List Bl).map eBl) false]]⟩, pt d8 ⟨3, [eLc r8]⟩]) 0 (fun s x => p_dyehouselaw12_works_b1 fuel  x s) 0 rfl (it_ir_Operands_1 kxs1) (s20.sel [0, 3, 2, 1] (by decide)) he1 (by decide) ?_ ?_ ?_ ?_
  ·
    rintro c1 o1 u2 hr1 F1 H19 s21
    replace hr1 : p_dyehouselaw12_works_b1 fuel  o1 c1 = some u2 := hr1
    unfold p_dyehouselaw12_works_b1 at hr1
    refine U_skip ?_
    refine ⟨[(2, .pb d2 0 0), (3, .pb d7 0 0), (4, .int .i64 r3), (5, .bool r4), (6, .int .i64 r5), (7, .bool r6), (8, .pb d8 0 0), (9, .bool r9), (10, .pb d9 0 0), (52, .fn (.func 101) [] [.pim [eFnc r10] 0 0]), (53, .agg (eOpd o1))], _, ⟨rfl, rfl, rfl⟩, s21, fun F2 H20 s22 => ?_⟩
    refine U_block ?_
    refine U_reg ?_
    simp only [SQ, ty3, s22.b 0 rfl, n1, n2, n3, n4, n5, n6]
    refine N_put 0 s22 rfl fun H21 s23 => ?_
    simp only [SQ, n1, n2, n3, n4, n5, n6]
    refine hold_intro ?_
    replace hr1 := Option.some.inj hr1
    subst hr1
    exact ⟨IntKind.wrap .i64 (c1 + 1), rfl, s23⟩
  ·
    rintro c2 H22 rfl s24
    replace h := outX_n h
    refine U_seq ?_
    obtain ⟨r11, kr11, h⟩ := bndO h
    obtain ⟨b1, kb1, h⟩ := bndO h
    obtain ⟨b2, kb2, h⟩ := bndO h
    obtain ⟨b3, kb3, h⟩ := bndO h
    obtain ⟨b4, kb4, h⟩ := bndO h
    obtain ⟨b5, kb5, h⟩ := bndO h
    obtain ⟨b6, kb6, h⟩ := bndO h
    refine U_cut (fun a' H' => Fi a' 120 [(0, .bool b6)] ∧ H22 = H') ?_ ?_
    · refine U_drawQ hm [0, 1, 3, 7, 15, 31, 63, 127, 255, 511, 1023, 2047, 4095, 8191, 16383, 32767, 65535, 131071, 262143, 524287, 1048575, 2097151, 4194303, 8388607, 16777215, 33554431, 67108863, 134217727, 268435455, 536870911, 1073741823, 2147483647, 4294967295, 8589934591, 17179869183, 34359738367, 68719476735, 137438953471, 274877906943, 549755813887, 549755813887, 1649267441663, 4398046511103, 8796093022207, 17592186044415, 35184372088831, 70368744177663, 140737488355327, 281474976710655, 562949953421311, 1125899906842623, 2251799813685247, 4503599627370495, 9007199254740991, 9007199254740991, 27021597764222975, 72057594037927935, 144115188075855871, 288230376151711743, 576460752303423487, 576460752303423487, 2305843009213693951, 4611686018427387903, 9223372036854775807, 18446744073709551615] false 61 (by decide +kernel) (by decide) ?_
      simp only [List.append_eq, List.cons_append, List.nil_append]
      rcases Bool.eq_false_or_eq_true (decide ((r11.length : Int) = 1)) with hb1 | hb1
      ·
        rcases Bool.eq_false_or_eq_true (decide (r3 = 2)) with hb2 | hb2
        ·
          rcases Bool.eq_false_or_eq_true (r4) with hb3 | hb3
          ·
            rcases Bool.eq_false_or_eq_true (decide (r5 = 1)) with hb4 | hb4
            ·
              rcases Bool.eq_false_or_eq_true (r6) with hb5 | hb5
              ·
                have hx1 : (((((decide ((r11.length : Int) = 1)) && (decide (r3 = 2))) && r4) && (decide (r5 = 1))) && r6) = true := by simp only [SQ, hb1, hb2, hb3, hb4, hb5]
                rw [if_pos hx1] at kb1
                obtain ⟨r12, kr12, kb1⟩ := bndO kb1
                have hq1 := (Option.some.inj kb1).symm
                rcases Bool.eq_false_or_eq_true (decide (r12 = 0)) with hb6 | hb6
                ·
                  have hx2 : b1 = true := by simp only [SQ, hb1, hb2, hb3, hb4, hb5, hq1, hb6]
                  rw [if_pos hx2] at kb2
                  obtain ⟨r13, kr13, kb2⟩ := bndO kb2
                  have hq2 := (Option.some.inj kb2).symm
                  rcases Bool.eq_false_or_eq_true (decide (r13 = 2)) with hb7 | hb7
                  ·
                    have hx3 : b2 = true := by simp only [SQ, hb1, hb2, hb3, hb4, hb5, hq1, hb6, hq2, hb7]
                    rw [if_pos hx3] at kb3
                    obtain ⟨r14, kr14, kb3⟩ := bndO kb3
                    have hq3 := (Option.some.inj kb3).symm
                    rcases Bool.eq_false_or_eq_true (decide ((r14.length : Int) = 1)) with hb8 | hb8
                    ·
                      rcases Bool.eq_false_or_eq_true (decide (c2 = 5)) with hb9 | hb9
                      ·
                        have hx4 : (b3 && (decide (c2 = 5))) = true := by simp only [SQ, hb1, hb2, hb3, hb4, hb5, hq1, hb6, hq2, hb7, hq3, hb8, hb9]
                        rw [if_pos hx4] at kb4
                        obtain ⟨r15, kr15, kb4⟩ := bndO kb4
                        obtain ⟨r16, kr16, kb4⟩ := bndO kb4
                        have hq4 := (Option.some.inj kb4).symm
                        rcases Bool.eq_false_or_eq_true (r16) with hb10 | hb10
                        ·
                          rcases Bool.eq_false_or_eq_true (decide (r8.n = 3)) with hb11 | hb11
                          ·
                            rcases Bool.eq_false_or_eq_true (r9) with hb12 | hb12
                            ·
                              have hx5 : ((b4 && (decide (r8.n = 3))) && r9) = true := by simp only [SQ, hb1, hb2, hb3, hb4, hb5, hq1, hb6, hq2, hb7, hq3, hb8, hb9, hq4, hb10, hb11, hb12]
                              rw [if_pos hx5] at kb5
                              obtain ⟨r17, kr17, kb5⟩ := bndO kb5
                              obtain ⟨r18, kr18, kb5⟩ := bndO kb5
                              have hq5 := (Option.some.inj kb5).symm
                              rcases Bool.eq_false_or_eq_true (r18) with hb13 | hb13
                              ·
                                have hx6 : b5 = true := by simp only [SQ, hb1, hb2, hb3, hb4, hb5, hq1, hb6, hq2, hb7, hq3, hb8, hb9, hq4, hb10, hb11, hb12, hq5, hb13]
                                rw [if_pos hx6] at kb6
                                obtain ⟨r19, kr19, kb6⟩ := bndO kb6
                                have hq6 := (Option.some.inj kb6).symm
                                simp only [SQ, ty66, s24.b 1 rfl, hb1, hb2, hb3, hb4, hb5, hq1, hb6, hq2, hb7, hq3, hb8, hb9, hq4, hb10, hb11, hb12, hq5, hb13, hq6, n1, n2, n3, n4, n5, n6]
                                refine callP (Pure1.sub (w_ir_Uses kr11) ((Subs.cons (Sub_agg ((Subs.cons Sub.refl (Subs.cons Sub.refl (Subs.cons Sub.refl (Subs.cons Sub.refl (Subs.cons Sub.refl (Subs.cons Sub.refl (Subs.cons Sub.refl (Subs.cons Sub.refl (Subs.cons sub_nils (Subs.cons sub_nils Subs.nil)))))))))))) Subs.nil)) ((all_cl (closed_agg ((all_cl (closed_int _ _) (all_cl (closed_int _ _) (all_cl (closed_int _ _) (all_cl (closed_int _ _) (all_cl (closed_int _ _) (all_cl (cl_map cl_eOpd ([r2, r2] : List Opd)) (all_cl (closed_str _) (all_cl (closed_int _ _) (all_cl (closed_nils) (all_cl (closed_nils) all_cl0)))))))))))) all_cl0))) ?_
                                simp only [SQ, len_sim ty37 rfl, ty26, s24.b 2 rfl, hb1, hb2, hb3, hb4, hb5, hq1, hb6, hq2, hb7, hq3, hb8, hb9, hq4, hb10, hb11, hb12, hq5, hb13, hq6, n1, n2, n3, n4, n5, n6]
                                refine callP (w_ir_Find kr12) ?_
                                simp only [SQ, ty26, s24.b 2 rfl, hb1, hb2, hb3, hb4, hb5, hq1, hb6, hq2, hb7, hq3, hb8, hb9, hq4, hb10, hb11, hb12, hq5, hb13, hq6, n1, n2, n3, n4, n5, n6]
                                refine callP (w_ir_Count kr13) ?_
                                simp only [SQ, ty26, s24.b 2 rfl, hb1, hb2, hb3, hb4, hb5, hq1, hb6, hq2, hb7, hq3, hb8, hb9, hq4, hb10, hb11, hb12, hq5, hb13, hq6, n1, n2, n3, n4, n5, n6]
                                refine callP (w_ir_Calls kr14) ?_
                                simp only [SQ, len_sim ty64 rfl, ty3, s24.b 0 rfl, ty26, s24.b 2 rfl, hb1, hb2, hb3, hb4, hb5, hq1, hb6, hq2, hb7, hq3, hb8, hb9, hq4, hb10, hb11, hb12, hq5, hb13, hq6, n1, n2, n3, n4, n5, n6]
                                refine callP (w_ir_Copy kr15) ?_
                                simp only [SQ, hb1, hb2, hb3, hb4, hb5, hq1, hb6, hq2, hb7, hq3, hb8, hb9, hq4, hb10, hb11, hb12, hq5, hb13, hq6, n1, n2, n3, n4, n5, n6]
                                refine callP (w_ir_Same kr16) ?_
                                simp only [SQ, ty134, ty3, s24.b 3 rfl, sLc, ty66, s24.b 1 rfl, hb1, hb2, hb3, hb4, hb5, hq1, hb6, hq2, hb7, hq3, hb8, hb9, hq4, hb10, hb11, hb12, hq5, hb13, hq6, n1, n2, n3, n4, n5, n6]
                                refine callP (Pure1.sub (w_ir_CopyInstr kr17) ((Subs.cons (Sub_agg ((Subs.cons Sub.refl (Subs.cons Sub.refl (Subs.cons Sub.refl (Subs.cons Sub.refl (Subs.cons Sub.refl (Subs.cons Sub.refl (Subs.cons Sub.refl (Subs.cons Sub.refl (Subs.cons sub_nils (Subs.cons sub_nils Subs.nil)))))))))))) Subs.nil)) ((all_cl (closed_agg ((all_cl (closed_int _ _) (all_cl (closed_int _ _) (all_cl (closed_int _ _) (all_cl (closed_int _ _) (all_cl (closed_int _ _) (all_cl (cl_map cl_eOpd ([r2, r2] : List Opd)) (all_cl (closed_str _) (all_cl (closed_int _ _) (all_cl (closed_nils) (all_cl (closed_nils) all_cl0)))))))))))) all_cl0))) ?_
                                simp only [SQ, hb1, hb2, hb3, hb4, hb5, hq1, hb6, hq2, hb7, hq3, hb8, hb9, hq4, hb10, hb11, hb12, hq5, hb13, hq6, n1, n2, n3, n4, n5, n6]
                                refine callP (Pure1.sub (w_ir_SameInstr kr18) ((Subs.cons (Sub_agg ((Subs.cons Sub.refl (Subs.cons Sub.refl (Subs.cons Sub.refl (Subs.cons Sub.refl (Subs.cons Sub.refl (Subs.cons Sub.refl (Subs.cons Sub.refl (Subs.cons Sub.refl (Subs.cons sub_nils (Subs.cons sub_nils Subs.nil)))))))))))) (Subs.cons Sub.refl Subs.nil))) ((all_cl (closed_agg ((all_cl (closed_int _ _) (all_cl (closed_int _ _) (all_cl (closed_int _ _) (all_cl (closed_int _ _) (all_cl (closed_int _ _) (all_cl (cl_map cl_eOpd ([r2, r2] : List Opd)) (all_cl (closed_str _) (all_cl (closed_int _ _) (all_cl (closed_nils) (all_cl (closed_nils) all_cl0)))))))))))) (all_cl (cl_agg (cl_eIns _)) all_cl0)))) ?_
                                simp only [SQ, ty93, fk93, hb1, hb2, hb3, hb4, hb5, hq1, hb6, hq2, hb7, hq3, hb8, hb9, hq4, hb10, hb11, hb12, hq5, hb13, hq6, n1, n2, n3, n4, n5, n6]
                                refine callP (Pure1.sub (w_ir_SameAlloc kr19) ((Subs.cons (Sub_agg ((Subs.cons Sub.refl (Subs.cons sub_nils Subs.nil)))) (Subs.cons (Sub_agg ((Subs.cons Sub.refl (Subs.cons sub_nils Subs.nil)))) Subs.nil))) ((all_cl (closed_agg ((all_cl (closed_int _ _) (all_cl (closed_nils) all_cl0)))) (all_cl (closed_agg ((all_cl (closed_int _ _) (all_cl (closed_nils) all_cl0)))) all_cl0)))) ?_
                                simp only [SQ, hb1, hb2, hb3, hb4, hb5, hq1, hb6, hq2, hb7, hq3, hb8, hb9, hq4, hb10, hb11, hb12, hq5, hb13, hq6, n1, n2, n3, n4, n5, n6]
                                refine hold_intro ?_
                                exact ⟨⟨rfl, rfl, by first | rfl | simp only [SQ, hb1, hb2, hb3, hb4, hb5, hq1, hb6, hq2, hb7, hq3, hb8, hb9, hq4, hb10, hb11, hb12, hq5, hb13, hq6, n1, n2, n3, n4, n5, n6]⟩, rfl⟩
                              ·
                                have hx7 : b5 = false := by simp only [SQ, hb1, hb2, hb3, hb4, hb5, hq1, hb6, hq2, hb7, hq3, hb8, hb9, hq4, hb10, hb11, hb12, hq5, hb13]
                                rw [if_neg (by rw [hx7]; decide)] at kb6
                                have hq7 := (Option.some.inj kb6).symm
                                simp only [SQ, ty66, s24.b 1 rfl, hb1, hb2, hb3, hb4, hb5, hq1, hb6, hq2, hb7, hq3, hb8, hb9, hq4, hb10, hb11, hb12, hq5, hb13, hq7, n1, n2, n3, n4, n5, n6]
                                refine callP (Pure1.sub (w_ir_Uses kr11) ((Subs.cons (Sub_agg ((Subs.cons Sub.refl (Subs.cons Sub.refl (Subs.cons Sub.refl (Subs.cons Sub.refl (Subs.cons Sub.refl (Subs.cons Sub.refl (Subs.cons Sub.refl (Subs.cons Sub.refl (Subs.cons sub_nils (Subs.cons sub_nils Subs.nil)))))))))))) Subs.nil)) ((all_cl (closed_agg ((all_cl (closed_int _ _) (all_cl (closed_int _ _) (all_cl (closed_int _ _) (all_cl (closed_int _ _) (all_cl (closed_int _ _) (all_cl (cl_map cl_eOpd ([r2, r2] : List Opd)) (all_cl (closed_str _) (all_cl (closed_int _ _) (all_cl (closed_nils) (all_cl (closed_nils) all_cl0)))))))))))) all_cl0))) ?_
                                simp only [SQ, len_sim ty37 rfl, ty26, s24.b 2 rfl, hb1, hb2, hb3, hb4, hb5, hq1, hb6, hq2, hb7, hq3, hb8, hb9, hq4, hb10, hb11, hb12, hq5, hb13, hq7, n1, n2, n3, n4, n5, n6]
                                refine callP (w_ir_Find kr12) ?_
                                simp only [SQ, ty26, s24.b 2 rfl, hb1, hb2, hb3, hb4, hb5, hq1, hb6, hq2, hb7, hq3, hb8, hb9, hq4, hb10, hb11, hb12, hq5, hb13, hq7, n1, n2, n3, n4, n5, n6]
                                refine callP (w_ir_Count kr13) ?_
                                simp only [SQ, ty26, s24.b 2 rfl, hb1, hb2, hb3, hb4, hb5, hq1, hb6, hq2, hb7, hq3, hb8, hb9, hq4, hb10, hb11, hb12, hq5, hb13, hq7, n1, n2, n3, n4, n5, n6]
                                refine callP (w_ir_Calls kr14) ?_
                                simp only [SQ, len_sim ty64 rfl, ty3, s24.b 0 rfl, ty26, s24.b 2 rfl, hb1, hb2, hb3, hb4, hb5, hq1, hb6, hq2, hb7, hq3, hb8, hb9, hq4, hb10, hb11, hb12, hq5, hb13, hq7, n1, n2, n3, n4, n5, n6]
                                refine callP (w_ir_Copy kr15) ?_
                                simp only [SQ, hb1, hb2, hb3, hb4, hb5, hq1, hb6, hq2, hb7, hq3, hb8, hb9, hq4, hb10, hb11, hb12, hq5, hb13, hq7, n1, n2, n3, n4, n5, n6]
                                refine callP (w_ir_Same kr16) ?_
                                simp only [SQ, ty134, ty3, s24.b 3 rfl, sLc, ty66, s24.b 1 rfl, hb1, hb2, hb3, hb4, hb5, hq1, hb6, hq2, hb7, hq3, hb8, hb9, hq4, hb10, hb11, hb12, hq5, hb13, hq7, n1, n2, n3, n4, n5, n6]
                                refine callP (Pure1.sub (w_ir_CopyInstr kr17) ((Subs.cons (Sub_agg ((Subs.cons Sub.refl (Subs.cons Sub.refl (Subs.cons Sub.refl (Subs.cons Sub.refl (Subs.cons Sub.refl (Subs.cons Sub.refl (Subs.cons Sub.refl (Subs.cons Sub.refl (Subs.cons sub_nils (Subs.cons sub_nils Subs.nil)))))))))))) Subs.nil)) ((all_cl (closed_agg ((all_cl (closed_int _ _) (all_cl (closed_int _ _) (all_cl (closed_int _ _) (all_cl (closed_int _ _) (all_cl (closed_int _ _) (all_cl (cl_map cl_eOpd ([r2, r2] : List Opd)) (all_cl (closed_str _) (all_cl (closed_int _ _) (all_cl (closed_nils) (all_cl (closed_nils) all_cl0)))))))))))) all_cl0))) ?_
                                simp only [SQ, hb1, hb2, hb3, hb4, hb5, hq1, hb6, hq2, hb7, hq3, hb8, hb9, hq4, hb10, hb11, hb12, hq5, hb13, hq7, n1, n2, n3, n4, n5, n6]
                                refine callP (Pure1.sub (w_ir_SameInstr kr18) ((Subs.cons (Sub_agg ((Subs.cons Sub.refl (Subs.cons Sub.refl (Subs.cons Sub.refl (Subs.cons Sub.refl (Subs.cons Sub.refl (Subs.cons Sub.refl (Subs.cons Sub.refl (Subs.cons Sub.refl (Subs.cons sub_nils (Subs.cons sub_nils Subs.nil)))))))))))) (Subs.cons Sub.refl Subs.nil))) ((all_cl (closed_agg ((all_cl (closed_int _ _) (all_cl (closed_int _ _) (all_cl (closed_int _ _) (all_cl (closed_int _ _) (all_cl (closed_int _ _) (all_cl (cl_map cl_eOpd ([r2, r2] : List Opd)) (all_cl (closed_str _) (all_cl (closed_int _ _) (all_cl (closed_nils) (all_cl (closed_nils) all_cl0)))))))))))) (all_cl (cl_agg (cl_eIns _)) all_cl0)))) ?_
                                simp only [SQ, hb1, hb2, hb3, hb4, hb5, hq1, hb6, hq2, hb7, hq3, hb8, hb9, hq4, hb10, hb11, hb12, hq5, hb13, hq7, n1, n2, n3, n4, n5, n6]
                                refine hold_intro ?_
                                exact ⟨⟨rfl, rfl, by first | rfl | simp only [SQ, hb1, hb2, hb3, hb4, hb5, hq1, hb6, hq2, hb7, hq3, hb8, hb9, hq4, hb10, hb11, hb12, hq5, hb13, hq7, n1, n2, n3, n4, n5, n6]⟩, rfl⟩
                            ·
                              have hx8 : ((b4 && (decide (r8.n = 3))) && r9) = false := by simp only [SQ, hb1, hb2, hb3, hb4, hb5, hq1, hb6, hq2, hb7, hq3, hb8, hb9, hq4, hb10, hb11, hb12]
                              rw [if_neg (by rw [hx8]; decide)] at kb5
                              have hq8 := (Option.some.inj kb5).symm
                              have hx9 : b5 = false := by simp only [SQ, hb1, hb2, hb3, hb4, hb5, hq1, hb6, hq2, hb7, hq3, hb8, hb9, hq4, hb10, hb11, hb12, hq8]
                              rw [if_neg (by rw [hx9]; decide)] at kb6
                              have hq9 := (Option.some.inj kb6).symm
                              simp only [SQ, ty66, s24.b 1 rfl, hb1, hb2, hb3, hb4, hb5, hq1, hb6, hq2, hb7, hq3, hb8, hb9, hq4, hb10, hb11, hb12, hq8, hq9, n1, n2, n3, n4, n5, n6]
                              refine callP (Pure1.sub (w_ir_Uses kr11) ((Subs.cons (Sub_agg ((Subs.cons Sub.refl (Subs.cons Sub.refl (Subs.cons Sub.refl (Subs.cons Sub.refl (Subs.cons Sub.refl (Subs.cons Sub.refl (Subs.cons Sub.refl (Subs.cons Sub.refl (Subs.cons sub_nils (Subs.cons sub_nils Subs.nil)))))))))))) Subs.nil)) ((all_cl (closed_agg ((all_cl (closed_int _ _) (all_cl (closed_int _ _) (all_cl (closed_int _ _) (all_cl (closed_int _ _) (all_cl (closed_int _ _) (all_cl (cl_map cl_eOpd ([r2, r2] : List Opd)) (all_cl (closed_str _) (all_cl (closed_int _ _) (all_cl (closed_nils) (all_cl (closed_nils) all_cl0)))))))))))) all_cl0))) ?_
                              simp only [SQ, len_sim ty37 rfl, ty26, s24.b 2 rfl, hb1, hb2, hb3, hb4, hb5, hq1, hb6, hq2, hb7, hq3, hb8, hb9, hq4, hb10, hb11, hb12, hq8, hq9, n1, n2, n3, n4, n5, n6]
                              refine callP (w_ir_Find kr12) ?_
                              simp only [SQ, ty26, s24.b 2 rfl, hb1, hb2, hb3, hb4, hb5, hq1, hb6, hq2, hb7, hq3, hb8, hb9, hq4, hb10, hb11, hb12, hq8, hq9, n1, n2, n3, n4, n5, n6]
                              refine callP (w_ir_Count kr13) ?_
                              simp only [SQ, ty26, s24.b 2 rfl, hb1, hb2, hb3, hb4, hb5, hq1, hb6, hq2, hb7, hq3, hb8, hb9, hq4, hb10, hb11, hb12, hq8, hq9, n1, n2, n3, n4, n5, n6]
                              refine callP (w_ir_Calls kr14) ?_
                              simp only [SQ, len_sim ty64 rfl, ty3, s24.b 0 rfl, ty26, s24.b 2 rfl, hb1, hb2, hb3, hb4, hb5, hq1, hb6, hq2, hb7, hq3, hb8, hb9, hq4, hb10, hb11, hb12, hq8, hq9, n1, n2, n3, n4, n5, n6]
                              refine callP (w_ir_Copy kr15) ?_
                              simp only [SQ, hb1, hb2, hb3, hb4, hb5, hq1, hb6, hq2, hb7, hq3, hb8, hb9, hq4, hb10, hb11, hb12, hq8, hq9, n1, n2, n3, n4, n5, n6]
                              refine callP (w_ir_Same kr16) ?_
                              simp only [SQ, ty134, ty3, s24.b 3 rfl, sLc, hb1, hb2, hb3, hb4, hb5, hq1, hb6, hq2, hb7, hq3, hb8, hb9, hq4, hb10, hb11, hb12, hq8, hq9, n1, n2, n3, n4, n5, n6]
                              refine hold_intro ?_
                              exact ⟨⟨rfl, rfl, by first | rfl | simp only [SQ, hb1, hb2, hb3, hb4, hb5, hq1, hb6, hq2, hb7, hq3, hb8, hb9, hq4, hb10, hb11, hb12, hq8, hq9, n1, n2, n3, n4, n5, n6]⟩, rfl⟩
                          ·
                            have hx10 : ((b4 && (decide (r8.n = 3))) && r9) = false := by simp only [SQ, hb1, hb2, hb3, hb4, hb5, hq1, hb6, hq2, hb7, hq3, hb8, hb9, hq4, hb10, hb11]
                            rw [if_neg (by rw [hx10]; decide)] at kb5
                            have hq10 := (Option.some.inj kb5).symm
                            have hx11 : b5 = false := by simp only [SQ, hb1, hb2, hb3, hb4, hb5, hq1, hb6, hq2, hb7, hq3, hb8, hb9, hq4, hb10, hb11, hq10]
                            rw [if_neg (by rw [hx11]; decide)] at kb6
                            have hq11 := (Option.some.inj kb6).symm
                            simp only [SQ, ty66, s24.b 1 rfl, hb1, hb2, hb3, hb4, hb5, hq1, hb6, hq2, hb7, hq3, hb8, hb9, hq4, hb10, hb11, hq10, hq11, n1, n2, n3, n4, n5, n6]
                            refine callP (Pure1.sub (w_ir_Uses kr11) ((Subs.cons (Sub_agg ((Subs.cons Sub.refl (Subs.cons Sub.refl (Subs.cons Sub.refl (Subs.cons Sub.refl (Subs.cons Sub.refl (Subs.cons Sub.refl (Subs.cons Sub.refl (Subs.cons Sub.refl (Subs.cons sub_nils (Subs.cons sub_nils Subs.nil)))))))))))) Subs.nil)) ((all_cl (closed_agg ((all_cl (closed_int _ _) (all_cl (closed_int _ _) (all_cl (closed_int _ _) (all_cl (closed_int _ _) (all_cl (closed_int _ _) (all_cl (cl_map cl_eOpd ([r2, r2] : List Opd)) (all_cl (closed_str _) (all_cl (closed_int _ _) (all_cl (closed_nils) (all_cl (closed_nils) all_cl0)))))))))))) all_cl0))) ?_
                            simp only [SQ, len_sim ty37 rfl, ty26, s24.b 2 rfl, hb1, hb2, hb3, hb4, hb5, hq1, hb6, hq2, hb7, hq3, hb8, hb9, hq4, hb10, hb11, hq10, hq11, n1, n2, n3, n4, n5, n6]
                            refine callP (w_ir_Find kr12) ?_
                            simp only [SQ, ty26, s24.b 2 rfl, hb1, hb2, hb3, hb4, hb5, hq1, hb6, hq2, hb7, hq3, hb8, hb9, hq4, hb10, hb11, hq10, hq11, n1, n2, n3, n4, n5, n6]
                            refine callP (w_ir_Count kr13) ?_
                            simp only [SQ, ty26, s24.b 2 rfl, hb1, hb2, hb3, hb4, hb5, hq1, hb6, hq2, hb7, hq3, hb8, hb9, hq4, hb10, hb11, hq10, hq11, n1, n2, n3, n4, n5, n6]
                            refine callP (w_ir_Calls kr14) ?_
                            simp only [SQ, len_sim ty64 rfl, ty3, s24.b 0 rfl, ty26, s24.b 2 rfl, hb1, hb2, hb3, hb4, hb5, hq1, hb6, hq2, hb7, hq3, hb8, hb9, hq4, hb10, hb11, hq10, hq11, n1, n2, n3, n4, n5, n6]
                            refine callP (w_ir_Copy kr15) ?_
                            simp only [SQ, hb1, hb2, hb3, hb4, hb5, hq1, hb6, hq2, hb7, hq3, hb8, hb9, hq4, hb10, hb11, hq10, hq11, n1, n2, n3, n4, n5, n6]
                            refine callP (w_ir_Same kr16) ?_
                            simp only [SQ, ty134, ty3, s24.b 3 rfl, sLc, hb1, hb2, hb3, hb4, hb5, hq1, hb6, hq2, hb7, hq3, hb8, hb9, hq4, hb10, hb11, hq10, hq11, n1, n2, n3, n4, n5, n6]
                            refine hold_intro ?_
                            exact ⟨⟨rfl, rfl, by first | rfl | simp only [SQ, hb1, hb2, hb3, hb4, hb5, hq1, hb6, hq2, hb7, hq3, hb8, hb9, hq4, hb10, hb11, hq10, hq11, n1, n2, n3, n4, n5, n6]⟩, rfl⟩
                        ·
                          have hx12 : ((b4 && (decide (r8.n = 3))) && r9) = false := by simp only [SQ, hb1, hb2, hb3, hb4, hb5, hq1, hb6, hq2, hb7, hq3, hb8, hb9, hq4, hb10]
                          rw [if_neg (by rw [hx12]; decide)] at kb5
                          have hq12 := (Option.some.inj kb5).symm
                          have hx13 : b5 = false := by simp only [SQ, hb1, hb2, hb3, hb4, hb5, hq1, hb6, hq2, hb7, hq3, hb8, hb9, hq4, hb10, hq12]
                          rw [if_neg (by rw [hx13]; decide)] at kb6
                          have hq13 := (Option.some.inj kb6).symm
                          simp only [SQ, ty66, s24.b 1 rfl, hb1, hb2, hb3, hb4, hb5, hq1, hb6, hq2, hb7, hq3, hb8, hb9, hq4, hb10, hq12, hq13, n1, n2, n3, n4, n5, n6]
                          refine callP (Pure1.sub (w_ir_Uses kr11) ((Subs.cons (Sub_agg ((Subs.cons Sub.refl (Subs.cons Sub.refl (Subs.cons Sub.refl (Subs.cons Sub.refl (Subs.cons Sub.refl (Subs.cons Sub.refl (Subs.cons Sub.refl (Subs.cons Sub.refl (Subs.cons sub_nils (Subs.cons sub_nils Subs.nil)))))))))))) Subs.nil)) ((all_cl (closed_agg ((all_cl (closed_int _ _) (all_cl (closed_int _ _) (all_cl (closed_int _ _) (all_cl (closed_int _ _) (all_cl (closed_int _ _) (all_cl (cl_map cl_eOpd ([r2, r2] : List Opd)) (all_cl (closed_str _) (all_cl (closed_int _ _) (all_cl (closed_nils) (all_cl (closed_nils) all_cl0)))))))))))) all_cl0))) ?_
                          simp only [SQ, len_sim ty37 rfl, ty26, s24.b 2 rfl, hb1, hb2, hb3, hb4, hb5, hq1, hb6, hq2, hb7, hq3, hb8, hb9, hq4, hb10, hq12, hq13, n1, n2, n3, n4, n5, n6]
                          refine callP (w_ir_Find kr12) ?_
                          simp only [SQ, ty26, s24.b 2 rfl, hb1, hb2, hb3, hb4, hb5, hq1, hb6, hq2, hb7, hq3, hb8, hb9, hq4, hb10, hq12, hq13, n1, n2, n3, n4, n5, n6]
                          refine callP (w_ir_Count kr13) ?_
                          simp only [SQ, ty26, s24.b 2 rfl, hb1, hb2, hb3, hb4, hb5, hq1, hb6, hq2, hb7, hq3, hb8, hb9, hq4, hb10, hq12, hq13, n1, n2, n3, n4, n5, n6]
                          refine callP (w_ir_Calls kr14) ?_
                          simp only [SQ, len_sim ty64 rfl, ty3, s24.b 0 rfl, ty26, s24.b 2 rfl, hb1, hb2, hb3, hb4, hb5, hq1, hb6, hq2, hb7, hq3, hb8, hb9, hq4, hb10, hq12, hq13, n1, n2, n3, n4, n5, n6]
                          refine callP (w_ir_Copy kr15) ?_
                          simp only [SQ, hb1, hb2, hb3, hb4, hb5, hq1, hb6, hq2, hb7, hq3, hb8, hb9, hq4, hb10, hq12, hq13, n1, n2, n3, n4, n5, n6]
                          refine callP (w_ir_Same kr16) ?_
                          simp only [SQ, hb1, hb2, hb3, hb4, hb5, hq1, hb6, hq2, hb7, hq3, hb8, hb9, hq4, hb10, hq12, hq13, n1, n2, n3, n4, n5, n6]
                          refine hold_intro ?_
                          exact ⟨⟨rfl, rfl, by first | rfl | simp only [SQ, hb1, hb2, hb3, hb4, hb5, hq1, hb6, hq2, hb7, hq3, hb8, hb9, hq4, hb10, hq12, hq13, n1, n2, n3, n4, n5, n6]⟩, rfl⟩
                      ·
                        have hx14 : (b3 && (decide (c2 = 5))) = false := by simp only [SQ, hb1, hb2, hb3, hb4, hb5, hq1, hb6, hq2, hb7, hq3, hb8, hb9]
                        rw [if_neg (by rw [hx14]; decide)] at kb4
                        have hq14 := (Option.some.inj kb4).symm
                        have hx15 : ((b4 && (decide (r8.n = 3))) && r9) = false := by simp only [SQ, hb1, hb2, hb3, hb4, hb5, hq1, hb6, hq2, hb7, hq3, hb8, hb9, hq14]
                        rw [if_neg (by rw [hx15]; decide)] at kb5
                        have hq15 := (Option.some.inj kb5).symm
                        have hx16 : b5 = false := by simp only [SQ, hb1, hb2, hb3, hb4, hb5, hq1, hb6, hq2, hb7, hq3, hb8, hb9, hq14, hq15]
                        rw [if_neg (by rw [hx16]; decide)] at kb6
                        have hq16 := (Option.some.inj kb6).symm
                        simp only [SQ, ty66, s24.b 1 rfl, hb1, hb2, hb3, hb4, hb5, hq1, hb6, hq2, hb7, hq3, hb8, hb9, hq14, hq15, hq16, n1, n2, n3, n4, n5, n6]
                        refine callP (Pure1.sub (w_ir_Uses kr11) ((Subs.cons (Sub_agg ((Subs.cons Sub.refl (Subs.cons Sub.refl (Subs.cons Sub.refl (Subs.cons Sub.refl (Subs.cons Sub.refl (Subs.cons Sub.refl (Subs.cons Sub.refl (Subs.cons Sub.refl (Subs.cons sub_nils (Subs.cons sub_nils Subs.nil)))))))))))) Subs.nil)) ((all_cl (closed_agg ((all_cl (closed_int _ _) (all_cl (closed_int _ _) (all_cl (closed_int _ _) (all_cl (closed_int _ _) (all_cl (closed_int _ _) (all_cl (cl_map cl_eOpd ([r2, r2] : List Opd)) (all_cl (closed_str _) (all_cl (closed_int _ _) (all_cl (closed_nils) (all_cl (closed_nils) all_cl0)))))))))))) all_cl0))) ?_
                        simp only [SQ, len_sim ty37 rfl, ty26, s24.b 2 rfl, hb1, hb2, hb3, hb4, hb5, hq1, hb6, hq2, hb7, hq3, hb8, hb9, hq14, hq15, hq16, n1, n2, n3, n4, n5, n6]
                        refine callP (w_ir_Find kr12) ?_
                        simp only [SQ, ty26, s24.b 2 rfl, hb1, hb2, hb3, hb4, hb5, hq1, hb6, hq2, hb7, hq3, hb8, hb9, hq14, hq15, hq16, n1, n2, n3, n4, n5, n6]
                        refine callP (w_ir_Count kr13) ?_
                        simp only [SQ, ty26, s24.b 2 rfl, hb1, hb2, hb3, hb4, hb5, hq1, hb6, hq2, hb7, hq3, hb8, hb9, hq14, hq15, hq16, n1, n2, n3, n4, n5, n6]
                        refine callP (w_ir_Calls kr14) ?_
                        simp only [SQ, len_sim ty64 rfl, ty3, s24.b 0 rfl, hb1, hb2, hb3, hb4, hb5, hq1, hb6, hq2, hb7, hq3, hb8, hb9, hq14, hq15, hq16, n1, n2, n3, n4, n5, n6]
                        refine hold_intro ?_
                        exact ⟨⟨rfl, rfl, by first | rfl | simp only [SQ, hb1, hb2, hb3, hb4, hb5, hq1, hb6, hq2, hb7, hq3, hb8, hb9, hq14, hq15, hq16, n1, n2, n3, n4, n5, n6]⟩, rfl⟩
                    ·
                      have hx17 : (b3 && (decide (c2 = 5))) = false := by simp only [SQ, hb1, hb2, hb3, hb4, hb5, hq1, hb6, hq2, hb7, hq3, hb8]
                      rw [if_neg (by rw [hx17]; decide)] at kb4
                      have hq17 := (Option.some.inj kb4).symm
                      have hx18 : ((b4 && (decide (r8.n = 3))) && r9) = false := by simp only [SQ, hb1, hb2, hb3, hb4, hb5, hq1, hb6, hq2, hb7, hq3, hb8, hq17]
                      rw [if_neg (by rw [hx18]; decide)] at kb5
                      have hq18 := (Option.some.inj kb5).symm
                      have hx19 : b5 = false := by simp only [SQ, hb1, hb2, hb3, hb4, hb5, hq1, hb6, hq2, hb7, hq3, hb8, hq17, hq18]
                      rw [if_neg (by rw [hx19]; decide)] at kb6
                      have hq19 := (Option.some.inj kb6).symm
                      simp only [SQ, ty66, s24.b 1 rfl, hb1, hb2, hb3, hb4, hb5, hq1, hb6, hq2, hb7, hq3, hb8, hq17, hq18, hq19, n1, n2, n3, n4, n5, n6]
                      refine callP (Pure1.sub (w_ir_Uses kr11) ((Subs.cons (Sub_agg ((Subs.cons Sub.refl (Subs.cons Sub.refl (Subs.cons Sub.refl (Subs.cons Sub.refl (Subs.cons Sub.refl (Subs.cons Sub.refl (Subs.cons Sub.refl (Subs.cons Sub.refl (Subs.cons sub_nils (Subs.cons sub_nils Subs.nil)))))))))))) Subs.nil)) ((all_cl (closed_agg ((all_cl (closed_int _ _) (all_cl (closed_int _ _) (all_cl (closed_int _ _) (all_cl (closed_int _ _) (all_cl (closed_int _ _) (all_cl (cl_map cl_eOpd ([r2, r2] : List Opd)) (all_cl (closed_str _) (all_cl (closed_int _ _) (all_cl (closed_nils) (all_cl (closed_nils) all_cl0)))))))))))) all_cl0))) ?_
                      simp only [SQ, len_sim ty37 rfl, ty26, s24.b 2 rfl, hb1, hb2, hb3, hb4, hb5, hq1, hb6, hq2, hb7, hq3, hb8, hq17, hq18, hq19, n1, n2, n3, n4, n5, n6]
                      refine callP (w_ir_Find kr12) ?_
                      simp only [SQ, ty26, s24.b 2 rfl, hb1, hb2, hb3, hb4, hb5, hq1, hb6, hq2, hb7, hq3, hb8, hq17, hq18, hq19, n1, n2, n3, n4, n5, n6]
                      refine callP (w_ir_Count kr13) ?_
                      simp only [SQ, ty26, s24.b 2 rfl, hb1, hb2, hb3, hb4, hb5, hq1, hb6, hq2, hb7, hq3, hb8, hq17, hq18, hq19, n1, n2, n3, n4, n5, n6]
                      refine callP (w_ir_Calls kr14) ?_
                      simp only [SQ, len_sim ty64 rfl, hb1, hb2, hb3, hb4, hb5, hq1, hb6, hq2, hb7, hq3, hb8, hq17, hq18, hq19, n1, n2, n3, n4, n5, n6]
                      refine hold_intro ?_
                      exact ⟨⟨rfl, rfl, by first | rfl | simp only [SQ, hb1, hb2, hb3, hb4, hb5, hq1, hb6, hq2, hb7, hq3, hb8, hq17, hq18, hq19, n1, n2, n3, n4, n5, n6]⟩, rfl⟩
                  ·
                    have hx20 : b2 = false := by simp only [SQ, hb1, hb2, hb3, hb4, hb5, hq1, hb6, hq2, hb7]
                    rw [if_neg (by rw [hx20]; decide)] at kb3
                    have hq20 := (Option.some.inj kb3).symm
                    have hx21 : (b3 && (decide (c2 = 5))) = false := by simp only [SQ, hb1, hb2, hb3, hb4, hb5, hq1, hb6, hq2, hb7, hq20]
                    rw [if_neg (by rw [hx21]; decide)] at kb4
                    have hq21 := (Option.some.inj kb4).symm
                    have hx22 : ((b4 && (decide (r8.n = 3))) && r9) = false := by simp only [SQ, hb1, hb2, hb3, hb4, hb5, hq1, hb6, hq2, hb7, hq20, hq21]
                    rw [if_neg (by rw [hx22]; decide)] at kb5
                    have hq22 := (Option.some.inj kb5).symm
                    have hx23 : b5 = false := by simp only [SQ, hb1, hb2, hb3, hb4, hb5, hq1, hb6, hq2, hb7, hq20, hq21, hq22]
                    rw [if_neg (by rw [hx23]; decide)] at kb6
                    have hq23 := (Option.some.inj kb6).symm
                    simp only [SQ, ty66, s24.b 1 rfl, hb1, hb2, hb3, hb4, hb5, hq1, hb6, hq2, hb7, hq20, hq21, hq22, hq23, n1, n2, n3, n4, n5, n6]
                    refine callP (Pure1.sub (w_ir_Uses kr11) ((Subs.cons (Sub_agg ((Subs.cons Sub.refl (Subs.cons Sub.refl (Subs.cons Sub.refl (Subs.cons Sub.refl (Subs.cons Sub.refl (Subs.cons Sub.refl (Subs.cons Sub.refl (Subs.cons Sub.refl (Subs.cons sub_nils (Subs.cons sub_nils Subs.nil)))))))))))) Subs.nil)) ((all_cl (closed_agg ((all_cl (closed_int _ _) (all_cl (closed_int _ _) (all_cl (closed_int _ _) (all_cl (closed_int _ _) (all_cl (closed_int _ _) (all_cl (cl_map cl_eOpd ([r2, r2] : List Opd)) (all_cl (closed_str _) (all_cl (closed_int _ _) (all_cl (closed_nils) (all_cl (closed_nils) all_cl0)))))))))))) all_cl0))) ?_
                    simp only [SQ, len_sim ty37 rfl, ty26, s24.b 2 rfl, hb1, hb2, hb3, hb4, hb5, hq1, hb6, hq2, hb7, hq20, hq21, hq22, hq23, n1, n2, n3, n4, n5, n6]
                    refine callP (w_ir_Find kr12) ?_
                    simp only [SQ, ty26, s24.b 2 rfl, hb1, hb2, hb3, hb4, hb5, hq1, hb6, hq2, hb7, hq20, hq21, hq22, hq23, n1, n2, n3, n4, n5, n6]
                    refine callP (w_ir_Count kr13) ?_
                    simp only [SQ, hb1, hb2, hb3, hb4, hb5, hq1, hb6, hq2, hb7, hq20, hq21, hq22, hq23, n1, n2, n3, n4, n5, n6]
                    refine hold_intro ?_
                    exact ⟨⟨rfl, rfl, by first | rfl | simp only [SQ, hb1, hb2, hb3, hb4, hb5, hq1, hb6, hq2, hb7, hq20, hq21, hq22, hq23, n1, n2, n3, n4, n5, n6]⟩, rfl⟩
                ·
                  have hx24 : b1 = false := by simp only [SQ, hb1, hb2, hb3, hb4, hb5, hq1, hb6]
                  rw [if_neg (by rw [hx24]; decide)] at kb2
                  have hq24 := (Option.some.inj kb2).symm
                  have hx25 : b2 = false := by simp only [SQ, hb1, hb2, hb3, hb4, hb5, hq1, hb6, hq24]
                  rw [if_neg (by rw [hx25]; decide)] at kb3
                  have hq25 := (Option.some.inj kb3).symm
                  have hx26 : (b3 && (decide (c2 = 5))) = false := by simp only [SQ, hb1, hb2, hb3, hb4, hb5, hq1, hb6, hq24, hq25]
                  rw [if_neg (by rw [hx26]; decide)] at kb4
                  have hq26 := (Option.some.inj kb4).symm
                  have hx27 : ((b4 && (decide (r8.n = 3))) && r9) = false := by simp only [SQ, hb1, hb2, hb3, hb4, hb5, hq1, hb6, hq24, hq25, hq26]
                  rw [if_neg (by rw [hx27]; decide)] at kb5
                  have hq27 := (Option.some.inj kb5).symm
                  have hx28 : b5 = false := by simp only [SQ, hb1, hb2, hb3, hb4, hb5, hq1, hb6, hq24, hq25, hq26, hq27]
                  rw [if_neg (by rw [hx28]; decide)] at kb6
                  have hq28 := (Option.some.inj kb6).symm
                  simp only [SQ, ty66, s24.b 1 rfl, hb1, hb2, hb3, hb4, hb5, hq1, hb6, hq24, hq25, hq26, hq27, hq28, n1, n2, n3, n4, n5, n6]
                  refine callP (Pure1.sub (w_ir_Uses kr11) ((Subs.cons (Sub_agg ((Subs.cons Sub.refl (Subs.cons Sub.refl (Subs.cons Sub.refl (Subs.cons Sub.refl (Subs.cons Sub.refl (Subs.cons Sub.refl (Subs.cons Sub.refl (Subs.cons Sub.refl (Subs.cons sub_nils (Subs.cons sub_nils Subs.nil)))))))))))) Subs.nil)) ((all_cl (closed_agg ((all_cl (closed_int _ _) (all_cl (closed_int _ _) (all_cl (closed_int _ _) (all_cl (closed_int _ _) (all_cl (closed_int _ _) (all_cl (cl_map cl_eOpd ([r2, r2] : List Opd)) (all_cl (closed_str _) (all_cl (closed_int _ _) (all_cl (closed_nils) (all_cl (closed_nils) all_cl0)))))))))))) all_cl0))) ?_
                  simp only [SQ, len_sim ty37 rfl, ty26, s24.b 2 rfl, hb1, hb2, hb3, hb4, hb5, hq1, hb6, hq24, hq25, hq26, hq27, hq28, n1, n2, n3, n4, n5, n6]
                  refine callP (w_ir_Find kr12) ?_
                  simp only [SQ, hb1, hb2, hb3, hb4, hb5, hq1, hb6, hq24, hq25, hq26, hq27, hq28, n1, n2, n3, n4, n5, n6]
                  refine hold_intro ?_
                  exact ⟨⟨rfl, rfl, by first | rfl | simp only [SQ, hb1, hb2, hb3, hb4, hb5, hq1, hb6, hq24, hq25, hq26, hq27, hq28, n1, n2, n3, n4, n5, n6]⟩, rfl⟩
              ·
                have hx29 : (((((decide ((r11.length : Int) = 1)) && (decide (r3 = 2))) && r4) && (decide (r5 = 1))) && r6) = false := by simp only [SQ, hb1, hb2, hb3, hb4, hb5]
                rw [if_neg (by rw [hx29]; decide)] at kb1
                have hq29 := (Option.some.inj kb1).symm
                have hx30 : b1 = false := by simp only [SQ, hb1, hb2, hb3, hb4, hb5, hq29]
                rw [if_neg (by rw [hx30]; decide)] at kb2
                have hq30 := (Option.some.inj kb2).symm
                have hx31 : b2 = false := by simp only [SQ, hb1, hb2, hb3, hb4, hb5, hq29, hq30]
                rw [if_neg (by rw [hx31]; decide)] at kb3
                have hq31 := (Option.some.inj kb3).symm
                have hx32 : (b3 && (decide (c2 = 5))) = false := by simp only [SQ, hb1, hb2, hb3, hb4, hb5, hq29, hq30, hq31]
                rw [if_neg (by rw [hx32]; decide)] at kb4
                have hq32 := (Option.some.inj kb4).symm
                have hx33 : ((b4 && (decide (r8.n = 3))) && r9) = false := by simp only [SQ, hb1, hb2, hb3, hb4, hb5, hq29, hq30, hq31, hq32]
                rw [if_neg (by rw [hx33]; decide)] at kb5
                have hq33 := (Option.some.inj kb5).symm
                have hx34 : b5 = false := by simp only [SQ, hb1, hb2, hb3, hb4, hb5, hq29, hq30, hq31, hq32, hq33]
                rw [if_neg (by rw [hx34]; decide)] at kb6
                have hq34 := (Option.some.inj kb6).symm
                simp only [SQ, ty66, s24.b 1 rfl, hb1, hb2, hb3, hb4, hb5, hq29, hq30, hq31, hq32, hq33, hq34, n1, n2, n3, n4, n5, n6]
                refine callP (Pure1.sub (w_ir_Uses kr11) ((Subs.cons (Sub_agg ((Subs.cons Sub.refl (Subs.cons Sub.refl (Subs.cons Sub.refl (Subs.cons Sub.refl (Subs.cons Sub.refl (Subs.cons Sub.refl (Subs.cons Sub.refl (Subs.cons Sub.refl (Subs.cons sub_nils (Subs.cons sub_nils Subs.nil)))))))))))) Subs.nil)) ((all_cl (closed_agg ((all_cl (closed_int _ _) (all_cl (closed_int _ _) (all_cl (closed_int _ _) (all_cl (closed_int _ _) (all_cl (closed_int _ _) (all_cl (cl_map cl_eOpd ([r2, r2] : List Opd)) (all_cl (closed_str _) (all_cl (closed_int _ _) (all_cl (closed_nils) (all_cl (closed_nils) all_cl0)))))))))))) all_cl0))) ?_
                simp only [SQ, len_sim ty37 rfl, hb1, hb2, hb3, hb4, hb5, hq29, hq30, hq31, hq32, hq33, hq34, n1, n2, n3, n4, n5, n6]
                refine hold_intro ?_
                exact ⟨⟨rfl, rfl, by first | rfl | simp only [SQ, hb1, hb2, hb3, hb4, hb5, hq29, hq30, hq31, hq32, hq33, hq34, n1, n2, n3, n4, n5, n6]⟩, rfl⟩
            ·
              have hx35 : (((((decide ((r11.length : Int) = 1)) && (decide (r3 = 2))) && r4) && (decide (r5 = 1))) && r6) = false := by simp only [SQ, hb1, hb2, hb3, hb4]
              rw [if_neg (by rw [hx35]; decide)] at kb1
              have hq35 := (Option.some.inj kb1).symm
              have hx36 : b1 = false := by simp only [SQ, hb1, hb2, hb3, hb4, hq35]
              rw [if_neg (by rw [hx36]; decide)] at kb2
              have hq36 := (Option.some.inj kb2).symm
              have hx37 : b2 = false := by simp only [SQ, hb1, hb2, hb3, hb4, hq35, hq36]
              rw [if_neg (by rw [hx37]; decide)] at kb3
              have hq37 := (Option.some.inj kb3).symm
              have hx38 : (b3 && (decide (c2 = 5))) = false := by simp only [SQ, hb1, hb2, hb3, hb4, hq35, hq36, hq37]
              rw [if_neg (by rw [hx38]; decide)] at kb4
              have hq38 := (Option.some.inj kb4).symm
              have hx39 : ((b4 && (decide (r8.n = 3))) && r9) = false := by simp only [SQ, hb1, hb2, hb3, hb4, hq35, hq36, hq37, hq38]
              rw [if_neg (by rw [hx39]; decide)] at kb5
              have hq39 := (Option.some.inj kb5).symm
              have hx40 : b5 = false := by simp only [SQ, hb1, hb2, hb3, hb4, hq35, hq36, hq37, hq38, hq39]
              rw [if_neg (by rw [hx40]; decide)] at kb6
              have hq40 := (Option.some.inj kb6).symm
              simp only [SQ, ty66, s24.b 1 rfl, hb1, hb2, hb3, hb4, hq35, hq36, hq37, hq38, hq39, hq40, n1, n2, n3, n4, n5, n6]
              refine callP (Pure1.sub (w_ir_Uses kr11) ((Subs.cons (Sub_agg ((Subs.cons Sub.refl (Subs.cons Sub.refl (Subs.cons Sub.refl (Subs.cons Sub.refl (Subs.cons Sub.refl (Subs.cons Sub.refl (Subs.cons Sub.refl (Subs.cons Sub.refl (Subs.cons sub_nils (Subs.cons sub_nils Subs.nil)))))))))))) Subs.nil)) ((all_cl (closed_agg ((all_cl (closed_int _ _) (all_cl (closed_int _ _) (all_cl (closed_int _ _) (all_cl (closed_int _ _) (all_cl (closed_int _ _) (all_cl (cl_map cl_eOpd ([r2, r2] : List Opd)) (all_cl (closed_str _) (all_cl (closed_int _ _) (all_cl (closed_nils) (all_cl (closed_nils) all_cl0)))))))))))) all_cl0))) ?_
              simp only [SQ, len_sim ty37 rfl, hb1, hb2, hb3, hb4, hq35, hq36, hq37, hq38, hq39, hq40, n1, n2, n3, n4, n5, n6]
              refine hold_intro ?_
              exact ⟨⟨rfl, rfl, by first | rfl | simp only [SQ, hb1, hb2, hb3, hb4, hq35, hq36, hq37, hq38, hq39, hq40, n1, n2, n3, n4, n5, n6]⟩, rfl⟩
          ·
            have hx41 : (((((decide ((r11.length : Int) = 1)) && (decide (r3 = 2))) && r4) && (decide (r5 = 1))) && r6) = false := by simp only [SQ, hb1, hb2, hb3]
            rw [if_neg (by rw [hx41]; decide)] at kb1
            have hq41 := (Option.some.inj kb1).symm
            have hx42 : b1 = false := by simp only [SQ, hb1, hb2, hb3, hq41]
            rw [if_neg (by rw [hx42]; decide)] at kb2
            have hq42 := (Option.some.inj kb2).symm
            have hx43 : b2 = false := by simp only [SQ, hb1, hb2, hb3, hq41, hq42]
            rw [if_neg (by rw [hx43]; decide)] at kb3
            have hq43 := (Option.some.inj kb3).symm
            have hx44 : (b3 && (decide (c2 = 5))) = false := by simp only [SQ, hb1, hb2, hb3, hq41, hq42, hq43]
            rw [if_neg (by rw [hx44]; decide)] at kb4
            have hq44 := (Option.some.inj kb4).symm
            have hx45 : ((b4 && (decide (r8.n = 3))) && r9) = false := by simp only [SQ, hb1, hb2, hb3, hq41, hq42, hq43, hq44]
            rw [if_neg (by rw [hx45]; decide)] at kb5
            have hq45 := (Option.some.inj kb5).symm
            have hx46 : b5 = false := by simp only [SQ, hb1, hb2, hb3, hq41, hq42, hq43, hq44, hq45]
            rw [if_neg (by rw [hx46]; decide)] at kb6
            have hq46 := (Option.some.inj kb6).symm
            simp only [SQ, ty66, s24.b 1 rfl, hb1, hb2, hb3, hq41, hq42, hq43, hq44, hq45, hq46, n1, n2, n3, n4, n5, n6]
            refine callP (Pure1.sub (w_ir_Uses kr11) ((Subs.cons (Sub_agg ((Subs.cons Sub.refl (Subs.cons Sub.refl (Subs.cons Sub.refl (Subs.cons Sub.refl (Subs.cons Sub.refl (Subs.cons Sub.refl (Subs.cons Sub.refl (Subs.cons Sub.refl (Subs.cons sub_nils (Subs.cons sub_nils Subs.nil)))))))))))) Subs.nil)) ((all_cl (closed_agg ((all_cl (closed_int _ _) (all_cl (closed_int _ _) (all_cl (closed_int _ _) (all_cl (closed_int _ _) (all_cl (closed_int _ _) (all_cl (cl_map cl_eOpd ([r2, r2] : List Opd)) (all_cl (closed_str _) (all_cl (closed_int _ _) (all_cl (closed_nils) (all_cl (closed_nils) all_cl0)))))))))))) all_cl0))) ?_
            simp only [SQ, len_sim ty37 rfl, hb1, hb2, hb3, hq41, hq42, hq43, hq44, hq45, hq46, n1, n2, n3, n4, n5, n6]
            refine hold_intro ?_
            exact ⟨⟨rfl, rfl, by first | rfl | simp only [SQ, hb1, hb2, hb3, hq41, hq42, hq43, hq44, hq45, hq46, n1, n2, n3, n4, n5, n6]⟩, rfl⟩
        ·
          have hx47 : (((((decide ((r11.length : Int) = 1)) && (decide (r3 = 2))) && r4) && (decide (r5 = 1))) && r6) = false := by simp only [SQ, hb1, hb2]
          rw [if_neg (by rw [hx47]; decide)] at kb1
          have hq47 := (Option.some.inj kb1).symm
          have hx48 : b1 = false := by simp only [SQ, hb1, hb2, hq47]
          rw [if_neg (by rw [hx48]; decide)] at kb2
          have hq48 := (Option.some.inj kb2).symm
          have hx49 : b2 = false := by simp only [SQ, hb1, hb2, hq47, hq48]
          rw [if_neg (by rw [hx49]; decide)] at kb3
          have hq49 := (Option.some.inj kb3).symm
          have hx50 : (b3 && (decide (c2 = 5))) = false := by simp only [SQ, hb1, hb2, hq47, hq48, hq49]
          rw [if_neg (by rw [hx50]; decide)] at kb4
          have hq50 := (Option.some.inj kb4).symm
          have hx51 : ((b4 && (decide (r8.n = 3))) && r9) = false := by simp only [SQ, hb1, hb2, hq47, hq48, hq49, hq50]
          rw [if_neg (by rw [hx51]; decide)] at kb5
          have hq51 := (Option.some.inj kb5).symm
          have hx52 : b5 = false := by simp only [SQ, hb1, hb2, hq47, hq48, hq49, hq50, hq51]
          rw [if_neg (by rw [hx52]; decide)] at kb6
          have hq52 := (Option.some.inj kb6).symm
          simp only [SQ, ty66, s24.b 1 rfl, hb1, hb2, hq47, hq48, hq49, hq50, hq51, hq52, n1, n2, n3, n4, n5, n6]
          refine callP (Pure1.sub (w_ir_Uses kr11) ((Subs.cons (Sub_agg ((Subs.cons Sub.refl (Subs.cons Sub.refl (Subs.cons Sub.refl (Subs.cons Sub.refl (Subs.cons Sub.refl (Subs.cons Sub.refl (Subs.cons Sub.refl (Subs.cons Sub.refl (Subs.cons sub_nils (Subs.cons sub_nils Subs.nil)))))))))))) Subs.nil)) ((all_cl (closed_agg ((all_cl (closed_int _ _) (all_cl (closed_int _ _) (all_cl (closed_int _ _) (all_cl (closed_int _ _) (all_cl (closed_int _ _) (all_cl (cl_map cl_eOpd ([r2, r2] : List Opd)) (all_cl (closed_str _) (all_cl (closed_int _ _) (all_cl (closed_nils) (all_cl (closed_nils) all_cl0)))))))))))) all_cl0))) ?_
          simp only [SQ, len_sim ty37 rfl, hb1, hb2, hq47, hq48, hq49, hq50, hq51, hq52, n1, n2, n3, n4, n5, n6]
          refine hold_intro ?_
          exact ⟨⟨rfl, rfl, by first | rfl | simp only [SQ, hb1, hb2, hq47, hq48, hq49, hq50, hq51, hq52, n1, n2, n3, n4, n5, n6]⟩, rfl⟩
      ·
        have hx53 : (((((decide ((r11.length : Int) = 1)) && (decide (r3 = 2))) && r4) && (decide (r5 = 1))) && r6) = false := by simp only [SQ, hb1]
        rw [if_neg (by rw [hx53]; decide)] at kb1
        have hq53 := (Option.some.inj kb1).symm
        have hx54 : b1 = false := by simp only [SQ, hb1, hq53]
        rw [if_neg (by rw [hx54]; decide)] at kb2
        have hq54 := (Option.some.inj kb2).symm
        have hx55 : b2 = false := by simp only [SQ, hb1, hq53, hq54]
        rw [if_neg (by rw [hx55]; decide)] at kb3
        have hq55 := (Option.some.inj kb3).symm
        have hx56 : (b3 && (decide (c2 = 5))) = false := by simp only [SQ, hb1, hq53, hq54, hq55]
        rw [if_neg (by rw [hx56]; decide)] at kb4
        have hq56 := (Option.some.inj kb4).symm
        have hx57 : ((b4 && (decide (r8.n = 3))) && r9) = false := by simp only [SQ, hb1, hq53, hq54, hq55, hq56]
        rw [if_neg (by rw [hx57]; decide)] at kb5
        have hq57 := (Option.some.inj kb5).symm
        have hx58 : b5 = false := by simp only [SQ, hb1, hq53, hq54, hq55, hq56, hq57]
        rw [if_neg (by rw [hx58]; decide)] at kb6
        have hq58 := (Option.some.inj kb6).symm
        simp only [SQ, ty66, s24.b 1 rfl, hb1, hq53, hq54, hq55, hq56, hq57, hq58, n1, n2, n3, n4, n5, n6]
        refine callP (Pure1.sub (w_ir_Uses kr11) ((Subs.cons (Sub_agg ((Subs.cons Sub.refl (Subs.cons Sub.refl (Subs.cons Sub.refl (Subs.cons Sub.refl (Subs.cons Sub.refl (Subs.cons Sub.refl (Subs.cons Sub.refl (Subs.cons Sub.refl (Subs.cons sub_nils (Subs.cons sub_nils Subs.nil)))))))))))) Subs.nil)) ((all_cl (closed_agg ((all_cl (closed_int _ _) (all_cl (closed_int _ _) (all_cl (closed_int _ _) (all_cl (closed_int _ _) (all_cl (closed_int _ _) (all_cl (cl_map cl_eOpd ([r2, r2] : List Opd)) (all_cl (closed_str _) (all_cl (closed_int _ _) (all_cl (closed_nils) (all_cl (closed_nils) all_cl0)))))))))))) all_cl0))) ?_
        simp only [SQ, len_sim ty37 rfl, hb1, hq53, hq54, hq55, hq56, hq57, hq58, n1, n2, n3, n4, n5, n6]
        refine hold_intro ?_
        exact ⟨⟨rfl, rfl, by first | rfl | simp only [SQ, hb1, hq53, hq54, hq55, hq56, hq57, hq58, n1, n2, n3, n4, n5, n6]⟩, rfl⟩
    · rintro a1 _ ⟨f1, rfl⟩
      refine U_fi f1 ?_
      refine U_ret ?_
      replace h := Option.some.inj h
      subst h
      refine ⟨.bool b6, by simp only [ires, iress, Try.results32, SQ, List.toList_toArray, n1, n2, n3, n4, n5, n6], ?_⟩
      exact .cl (closed_bool _)
  ·
    rintro c3 H24 rfl s26
    exact absurd (show (none : Option _) = some _ from h) (by simp)
  ·
    rintro c4 H25 rfl s27
    exact absurd (show (none : Option _) = some _ from h) (by simp)

theorem w_dyehouseref12_Class {fuel : Nat} {f_1 : Fnc} {v_1 : Int} {r0_ : Int} (h : p_dyehouseref12_Class fuel f_1 v_1 = some r0_) : Pure1 Try.prog 41 [.agg (eFnc f_1), .int .i64 v_1] (.int .i64 r0_) := by
  refine Pure1_S (all_cl (cl_agg (cl_eFnc _)) (all_cl (closed_int _ _) all_cl0)) fun F H s0 => ?_
  refine U_call 0 Try.func41 rfl (by kernel_rfl) (by simp [Try.ntmps41]) ?_
  rw [Try.ntmps41]
  refine U_fr 27 [(0, .agg (eFnc f_1)), (1, .int .i64 v_1)] rfl rfl rfl ?_
  unfold p_dyehouseref12_Class at h
  refine U_seq ?_
  refine U_reg ?_
  simp only [SQ, ty26, sFnc, n1, n2, n3, n4, n5, n6]
  refine N_box s0 rfl fun d1 H1 s1 => ?_
  simp only [SQ, n1, n2, n3, n4, n5, n6]
  refine hold_intro ?_
  refine U_seq ?_
  refine U_seq ?_
  refine U_reg ?_
  simp only [SQ, n1, n2, n3, n4, n5, n6]
  refine hold_intro ?_
  refine U_fr 27 [(1, .int .i64 v_1), (2, .pb d1 0 0), (5, .int .i64 0)] rfl rfl rfl ?_
  obtain ⟨u1, he1, h⟩ := bndE h
  obtain ⟨hhi1, hlo1, he1⟩ := toE_facts he1
  refine U_cut (fun a' H' => u1 = .n () ∧ Fi a' 27 [] ∧ HS F [pt d1 ⟨5, [eFnc f_1]⟩] H') (U_block (U_loop (fun z_ a' H' => match z_ with | i1 => forE ((f_1.regs.length : Int) - i1).toNat i1 (fun i _ => p_dyehouseref12_Class_b1 fuel f_1 v_1 i) () = some u1 ∧ 0 ≤ i1 ∧ Fi a' 27 [(1, .int .i64 v_1), (2, .pb d1 0 0), (5, .int .i64 i1)] ∧ HS F [pt d1 ⟨5, [eFnc f_1]⟩] H' : Int → Fr → Heap → Prop) (fun z_ : Int => ((f_1.regs.length : Int) - z_).toNat) 0 ?_ ?_)) ?_
  · exact ⟨he1, Int.le_refl _, ⟨rfl, rfl, rfl⟩, s1⟩
  ·
    rintro i1 a1 H2 ⟨hf1, hl1, f1, s2⟩
    refine U_fi f1 ?_
    by_cases hlt1 : i1 < (f_1.regs.length : Int)
    ·
      obtain ⟨u2, hr1, hl2⟩ := forE_step hf1 hlt1
      replace hr1 : p_dyehouseref12_Class_b1 fuel f_1 v_1 i1 = some u2 := hr1
      unfold p_dyehouseref12_Class_b1 at hr1
      have hw1 := wrap_next hlt1 hhi1 hlo1 hl1
      have hlt1_t : decide (i1 < (f_1.regs.length : Int)) = true := decide_eq_true hlt1
      refine U_seq (U_seq ?_)
      refine U_reg ?_
      simp only [SQ, ty26, ty22, s2.b 0 rfl, sFnc, len_sim ty22 rfl, hw1, hlt1_t, n1, n2, n3, n4, n5, n6]
      refine hold_intro ?_
      refine U_condT (by simp only [SQ, hw1, hlt1_t, n1, n2, n3, n4, n5, n6]) (U_skip ?_)
      refine U_seq ?_
      refine U_block ?_
      refine U_seq ?_
      obtain ⟨x1, kx1, hr1⟩ := bndO hr1
      refine U_reg ?_
      simp only [SQ, ty26, ty22, s2.b 0 rfl, sFnc, ty84, iia_sim (f := eRg) ty22 rfl ty84 kx1 rfl, row_sim (f := eRg) kx1, sRg, ty3, hw1, hlt1_t, n1, n2, n3, n4, n5, n6]
      refine hold_intro ?_
      rcases Bool.eq_false_or_eq_true (decide (x1.id = v_1)) with hb1 | hb1
      ·
        rw [if_pos hb1] at hr1
        refine U_condT (by simp only [SQ, hw1, hlt1_t, hb1, n1, n2, n3, n4, n5, n6]) ?_
        refine U_seq ?_
        refine U_reg ?_
        simp only [SQ, ty26, ty22, s2.b 0 rfl, sFnc, ty84, iia_sim (f := eRg) ty22 rfl ty84 kx1 rfl, row_sim (f := eRg) kx1, sRg, ty3, hw1, hlt1_t, hb1, n1, n2, n3, n4, n5, n6]
        refine hold_intro ?_
        refine U_ret ?_
        replace hr1 := Option.some.inj hr1
        subst hr1
        replace hl2 : u1 = .r _ := hl2
        subst hl2
        replace h := outE_r h
        replace h := Option.some.inj h
        subst h
        refine ⟨.int .i64 x1.cls, by simp only [ires, iress, Try.results41, SQ, List.toList_toArray, hw1, hlt1_t, hb1, n1, n2, n3, n4, n5, n6], ?_⟩
        exact .cl (closed_int _ _)
      ·
        rw [if_neg (by rw [hb1]; decide)] at hr1
        refine U_condF (by simp only [SQ, hw1, hlt1_t, hb1, n1, n2, n3, n4, n5, n6]) ?_
        refine U_skip ?_
        refine U_reg ?_
        simp only [SQ, hw1, hlt1_t, hb1, n1, n2, n3, n4, n5, n6]
        refine hold_intro ?_
        replace hr1 := Option.some.inj hr1
        subst hr1
        refine ⟨i1 + 1, ?_, hl2, Int.le_add_one hl1, ⟨rfl, rfl, by first | rfl | simp only [SQ, hw1, hlt1_t, hb1, n1, n2, n3, n4, n5, n6]⟩, s2⟩
        show ((f_1.regs.length : Int) - (i1 + 1)).toNat < ((f_1.regs.length : Int) - i1).toNat; omega
    ·
      have hlt1_e := forE_end hf1 hlt1
      have hlt1_t : decide (i1 < (f_1.regs.length : Int)) = false := decide_eq_false hlt1
      refine U_seq (U_seq ?_)
      refine U_reg ?_
      simp only [SQ, ty26, ty22, s2.b 0 rfl, sFnc, len_sim ty22 rfl, hlt1_t, n1, n2, n3, n4, n5, n6]
      refine hold_intro ?_
      refine U_condF (by simp only [SQ, hlt1_t, n1, n2, n3, n4, n5, n6]) (U_exit rfl ?_)
      exact ⟨hlt1_e, ⟨rfl, rfl, by first | rfl | simp only [SQ, hlt1_t, n1, n2, n3, n4, n5, n6]⟩, s2⟩
  ·
    rintro a2 H3 ⟨rfl, f2, s3⟩
    replace h := outE_n h
    refine U_fi f2 ?_
    refine U_seq ?_
    refine U_reg ?_
    simp only [SQ, n1, n2, n3, n4, n5, n6]
    refine hold_intro ?_
    refine U_ret ?_
    replace h := Option.some.inj h
    subst h
    refine ⟨.int .i64 (-1), by simp only [ires, iress, Try.results41, SQ, List.toList_toArray, n1, n2, n3, n4, n5, n6], ?_⟩
    exact .cl (closed_int _ _)

theorem w_dyehouselaw12_IrAsks_1 {fuel : Nat} {o_1 : Opd} {r0_ : Opd} (h : p_dyehouselaw12_IrAsks_1 fuel o_1 = some r0_) : Pure1 Try.prog 44 [.agg (eOpd o_1)] (.agg (eOpd r0_)) := by
  refine Pure1_S (all_cl (cl_agg (cl_eOpd _)) all_cl0) fun F H s0 => ?_
  refine U_call 0 Try.func44 rfl (by kernel_rfl) (by simp [Try.ntmps44]) ?_
  rw [Try.ntmps44]
  refine U_fr 12 [(0, .agg (eOpd o_1))] rfl rfl rfl ?_
  unfold p_dyehouselaw12_IrAsks_1 at h
  refine U_seq ?_
  refine U_reg ?_
  simp only [SQ, ty58, sOpd, n1, n2, n3, n4, n5, n6]
  refine N_box s0 rfl fun d1 H1 s1 => ?_
  simp only [SQ, ty58, n1, n2, n3, n4, n5, n6]
  refine N_box s1 rfl fun d2 H2 s2 => ?_
  simp only [SQ, n1, n2, n3, n4, n5, n6]
  refine hold_intro ?_
  refine U_seq ?_
  refine U_reg ?_
  simp only [SQ, ty58, ty3, s2.b 1 rfl, sOpd, fk58, s2.b 0 rfl, n1, n2, n3, n4, n5, n6]
  refine N_put 0 s2 rfl fun H3 s3 => ?_
  simp only [SQ, n1, n2, n3, n4, n5, n6]
  refine hold_intro ?_
  refine U_ret ?_
  replace h := Option.some.inj h
  subst h
  refine ⟨.agg [.int .i64 o_1.kind, .int .i64 o_1.cls, .int .i64 o_1.tag, .int .i64 o_1.n], by simp only [ires, iress, Try.results44, SQ, List.toList_toArray, s3.b 0 rfl, ty58, n1, n2, n3, n4, n5, n6], ?_⟩
  exact Fz_agg (.cons (.cl (closed_int _ _)) (.cons (.cl (closed_int _ _)) (.cons (.cl (closed_int _ _)) (.cons (.cl (closed_int _ _)) (.nil)))))

theorem w_ir_turned_at_dyehouselaw12_IrAsks_1 {fuel : Nat} {l_1 : List Opd} {r0_ : List Opd} (h : p_ir_turned_at_dyehouselaw12_IrAsks_1 fuel l_1 = some r0_) : Pure1 Try.prog 104 [.sim (l_1.map eOpd) false, .fn (.func 44) [] []] (.sim (r0_.map eOpd) false) := by
  refine Pure1_S (all_cl (cl_map cl_eOpd l_1) (all_cl (closed_fn _) all_cl0)) fun F H s0 => ?_
  refine U_call 0 Try.func104 rfl (by kernel_rfl) (by simp [Try.ntmps104]) ?_
  rw [Try.ntmps104]
  refine U_fr 26 [(0, .sim (l_1.map eOpd) false), (1, .fn (.func 44) [] [])] rfl rfl rfl ?_
  unfold p_ir_turned_at_dyehouselaw12_IrAsks_1 at h
  refine U_seq ?_
  refine U_reg ?_
  simp only [SQ, n1, n2, n3, n4, n5, n6]
  refine hold_intro ?_
  refine U_seq ?_
  obtain ⟨l1, kl1, h⟩ := bndO h
  refine U_reg ?_
  simp only [SQ, len_sim ty23 rfl, ty23, ty58, imk_some (d := 10) (f := eOpd) ty23 rfl ty58 rfl rfl (by decide) kl1, n1, n2, n3, n4, n5, n6]
  refine N_sl l1 R58i s0 rfl rfl (by first | rfl | simp only [SQ]) (by first | rfl | simp only [List.length_map, List.length_replicate]) (zip_flat rfl) ?_
  intro v1 H1 s1
  simp only [SQ, n1, n2, n3, n4, n5, n6]
  refine hold_intro ?_
  refine U_seq ?_
  refine U_seq ?_
  refine U_reg ?_
  simp only [SQ, len_sim ty23 rfl, n1, n2, n3, n4, n5, n6]
  refine hold_intro ?_
  refine U_fr 26 [(1, .fn (.func 44) [] []), (5, v1), (11, .sim (l_1.map eOpd) false), (12, .int .i64 (l_1.length : Int)), (13, .int .i64 0)] rfl rfl rfl ?_
  obtain ⟨u1, he1, h⟩ := bndE h
  refine U_cut (fun a' H' => ∃ x_1 : Int, ∃ out_1 : List Opd, u1 = .n (x_1, out_1) ∧ Fi a' 26 [(1, .fn (.func 44) [] []), (5, v1)] ∧ HS F [sl R58i v1 out_1] H') (U_block (U_loop (fun z_ a' H' => match z_ with | (m1, x_1, out_1) => loopE m1 (fun s => p_ir_turned_at_dyehouselaw12_IrAsks_1_b1 fuel l_1 s.1 s.2) (x_1, out_1) = some u1 ∧ Fi a' 26 [(1, .fn (.func 44) [] []), (5, v1), (11, .sim (l_1.map eOpd) false), (12, .int .i64 (l_1.length : Int)), (13, .int .i64 x_1)] ∧ HS F [sl R58i v1 out_1] H' : (Nat × Int × (List Opd)) → Fr → Heap → Prop) (fun z_ : Nat × Int × (List Opd) => z_.1) (fuel, 0, l1) ?_ ?_)) ?_
  · exact ⟨he1, ⟨rfl, rfl, rfl⟩, s1⟩
  ·
    rintro ⟨m1, x_1, out_1⟩ a1 H2 ⟨hf1, f1, s2⟩
    refine U_fi f1 ?_
    obtain ⟨m1', m1_lt, u2, hr1, hl2⟩ := loopE_step hf1
    replace hr1 : p_ir_turned_at_dyehouselaw12_IrAsks_1_b1 fuel l_1 x_1 out_1 = some u2 := hr1
    unfold p_ir_turned_at_dyehouselaw12_IrAsks_1_b1 at hr1
    refine U_seq ?_
    refine U_reg ?_
    simp only [SQ, n1, n2, n3, n4, n5, n6]
    refine hold_intro ?_
    refine U_seq ?_
    rcases Bool.eq_false_or_eq_true (decide (x_1 < (l_1.length : Int))) with hb1 | hb1
    ·
      rw [if_pos hb1] at hr1
      refine U_condT (by simp only [SQ, hb1, n1, n2, n3, n4, n5, n6]) ?_
      refine U_skip ?_
      refine U_seq ?_
      refine U_block ?_
      refine U_seq ?_
      obtain ⟨x1, kx1, hr1⟩ := bndO hr1
      refine U_reg ?_
      simp only [SQ, ty23, ty58, iia_sim (f := eOpd) ty23 rfl ty58 kx1 rfl, row_sim (f := eOpd) kx1, sOpd, hb1, n1, n2, n3, n4, n5, n6]
      refine N_box s2 rfl fun d1 H3 s3 => ?_
      simp only [SQ, ty58, sOpd, splice_all', s3.b 0 rfl, hb1, n1, n2, n3, n4, n5, n6]
      refine N_put 0 s3 rfl fun H4 s4 => ?_
      simp only [SQ, hb1, n1, n2, n3, n4, n5, n6]
      refine hold_intro ?_
      refine U_fr 26 [(1, .fn (.func 44) [] []), (5, v1), (6, .int .i64 x_1), (7, .pb d1 0 0), (11, .sim (l_1.map eOpd) false), (12, .int .i64 (l_1.length : Int)), (13, .int .i64 x_1)] rfl rfl rfl ?_
      obtain ⟨r1, kr1, hr1⟩ := bndO hr1
      obtain ⟨x2, kx2, hr1⟩ := bndO hr1
      obtain ⟨l2, kl2, hr1⟩ := bndO hr1
      refine U_reg ?_
      simp only [SQ, ty58, s4.b 0 rfl, sOpd, hb1, n1, n2, n3, n4, n5, n6]
      refine callP (w_dyehouselaw12_IrAsks_1 kr1) ?_
      obtain ⟨w1_i, w1_r, w1_a, w1_1⟩ := s4.at (P := Try.prog) (k := .i64) 1 rfl ty23 rfl ty58 rfl kx2
      simp only [SQ, ty23, ty58, w1_1, hb1, n1, n2, n3, n4, n5, n6]
      refine N_st (y := r1) 1 s4 rfl w1_a kx2 ty58 rfl (by first | rfl | simp only [SQ, sOpd, splice_all', hb1, n1, n2, n3, n4, n5, n6]) (by first | decide | simp only [SQ, sOpd, splice_all', hb1, n1, n2, n3, n4, n5, n6] <;> decide) (by simp only [SQ, sOpd, splice_all', hb1, n1, n2, n3, n4, n5, n6]) (by first | rfl | simp only [SQ, sOpd, splice_all', hb1, n1, n2, n3, n4, n5, n6] <;> rfl) kl2 fun H5 s5 => ?_
      simp only [SQ, hb1, n1, n2, n3, n4, n5, n6]
      refine hold_intro ?_
      refine U_reg ?_
      simp only [SQ, hb1, n1, n2, n3, n4, n5, n6]
      refine hold_intro ?_
      replace hr1 := Option.some.inj hr1
      subst hr1
      exact ⟨(m1', IntKind.wrap .i64 (x_1 + 1), l2), m1_lt, hl2, ⟨rfl, rfl, by first | rfl | simp only [SQ, hb1, n1, n2, n3, n4, n5, n6]⟩, s5.sel [1] (by decide)⟩
    ·
      rw [if_neg (by rw [hb1]; decide)] at hr1
      refine U_condF (by simp only [SQ, hb1, n1, n2, n3, n4, n5, n6]) ?_
      refine U_exit rfl ?_
      replace hr1 := Option.some.inj hr1
      subst hr1
      exact ⟨_, _, hl2, ⟨rfl, rfl, by first | rfl | simp only [SQ, hb1, n1, n2, n3, n4, n5, n6]⟩, s2⟩
  ·
    rintro a2 H6 ⟨x_2, out_2, rfl, f2, s6⟩
    replace h := outE_n h
    dsimp only at h
    refine U_fi f2 ?_
    refine U_seq ?_
    refine U_reg ?_
    simp only [SQ, n1, n2, n3, n4, n5, n6]
    refine hold_intro ?_
    refine U_ret ?_
    replace h := Option.some.inj h
    subst h
    refine ⟨v1, by simp only [ires, iress, Try.results104, SQ, List.toList_toArray, n1, n2, n3, n4, n5, n6], ?_⟩
    exact s6.fzS 0 rfl

theorem w_ir_MapInstr_at_dyehouselaw12_IrAsks_1 {fuel : Nat} {i_1 : Ins} {r0_ : Ins} (h : p_ir_MapInstr_at_dyehouselaw12_IrAsks_1 fuel i_1 = some r0_) : Pure1 Try.prog 43 [.agg (eIns i_1), .fn (.func 44) [] []] (.agg (eIns r0_)) := by
  refine Pure1_S (all_cl (cl_agg (cl_eIns _)) (all_cl (closed_fn _) all_cl0)) fun F H s0 => ?_
  refine U_call 0 Try.func43 rfl (by kernel_rfl) (by simp [Try.ntmps43]) ?_
  rw [Try.ntmps43]
  refine U_fr 19 [(0, .agg (eIns i_1)), (1, .fn (.func 44) [] [])] rfl rfl rfl ?_
  unfold p_ir_MapInstr_at_dyehouselaw12_IrAsks_1 at h
  refine U_seq ?_
  refine U_reg ?_
  simp only [SQ, ty66, sIns, n1, n2, n3, n4, n5, n6]
  refine N_box s0 rfl fun d1 H1 s1 => ?_
  simp only [SQ, ty66, n1, n2, n3, n4, n5, n6]
  refine N_box s1 rfl fun d2 H2 s2 => ?_
  simp only [SQ, n1, n2, n3, n4, n5, n6]
  refine hold_intro ?_
  refine U_seq ?_
  obtain ⟨r1, kr1, h⟩ := bndO h
  refine U_reg ?_
  simp only [SQ, ty66, s2.b 1 rfl, sIns, n1, n2, n3, n4, n5, n6]
  refine callP (w_ir_CopyInstr kr1) ?_
  simp only [SQ, ty66, n1, n2, n3, n4, n5, n6]
  refine N_box s2 rfl fun d3 H3 s3 => ?_
  simp only [SQ, ty66, sIns, splice_all', s3.b 0 rfl, n1, n2, n3, n4, n5, n6]
  refine N_put 0 s3 rfl fun H4 s4 => ?_
  simp only [SQ, n1, n2, n3, n4, n5, n6]
  refine hold_intro ?_
  refine U_seq ?_
  obtain ⟨r2, kr2, h⟩ := bndO h
  refine U_reg ?_
  simp only [SQ, ty66, ty58, s4.b 2 rfl, sIns, n1, n2, n3, n4, n5, n6]
  refine callP (w_dyehouselaw12_IrAsks_1 kr2) ?_
  simp only [SQ, ty66, ty58, sOpd, xOpd, sIns, s4.b 0 rfl, n1, n2, n3, n4, n5, n6]
  refine N_put 0 s4 rfl fun H5 s5 => ?_
  simp only [SQ, n1, n2, n3, n4, n5, n6]
  refine hold_intro ?_
  refine U_seq ?_
  obtain ⟨r3, kr3, h⟩ := bndO h
  refine U_reg ?_
  simp only [SQ, ty66, ty23, s5.b 2 rfl, sIns, n1, n2, n3, n4, n5, n6]
  refine callP (w_ir_turned_at_dyehouselaw12_IrAsks_1 kr3) ?_
  simp only [SQ, ty66, ty23, s5.b 0 rfl, n1, n2, n3, n4, n5, n6]
  refine N_put 0 s5 rfl fun H6 s6 => ?_
  simp only [SQ, n1, n2, n3, n4, n5, n6]
  refine hold_intro ?_
  refine U_seq ?_
  refine U_fr 19 [(1, .fn (.func 44) [] []), (4, .pb d2 0 0), (5, .pb d3 0 0)] rfl rfl rfl ?_
  refine U_reg ?_
  simp only [SQ, ty66, s6.b 0 rfl, s6.b 1 rfl, n1, n2, n3, n4, n5, n6]
  refine N_put 1 s6 rfl fun H7 s7 => ?_
  simp only [SQ, n1, n2, n3, n4, n5, n6]
  refine hold_intro ?_
  refine U_ret ?_
  replace h := Option.some.inj h
  subst h
  refine ⟨.agg [.int .i64 r1.op, .int .i64 r2.kind, .int .i64 r2.cls, .int .i64 r2.n, .int .i64 r2.tag, .sim (r3.map eOpd) false, .str r1.name, .int .i64 r1.off, .sim (r1.labels.map eStr) false, .sim (r1.cases.map eInt) false], by simp only [ires, iress, Try.results43, SQ, List.toList_toArray, s7.b 1 rfl, ty66, n1, n2, n3, n4, n5, n6], ?_⟩
  exact Fz_agg (.cons (.cl (closed_int _ _)) (.cons (.cl (closed_int _ _)) (.cons (.cl (closed_int _ _)) (.cons (.cl (closed_int _ _)) (.cons (.cl (closed_int _ _)) (.cons (.cl (cl_map cl_eOpd r3)) (.cons (.cl (closed_str _)) (.cons (.cl (closed_int _ _)) (.cons (.cl (cl_map cl_eStr r1.labels)) (.cons (.cl (cl_map cl_eInt r1.cases)) (.nil)))))))))))

theorem w_dyehouselaw12_IrAsks_2 {fuel : Nat} {o_1 : Opd} {r0_ : Opd} (h : p_dyehouselaw12_IrAsks_2 fuel o_1 = some r0_) : Pure1 Try.prog 45 [.agg (eOpd o_1)] (.agg (eOpd r0_)) := by
  refine Pure1_S (all_cl (cl_agg (cl_eOpd _)) all_cl0) fun F H s0 => ?_
  refine U_call 0 Try.func45 rfl (by kernel_rfl) (by simp [Try.ntmps45]) ?_
  rw [Try.ntmps45]
  refine U_fr 12 [(0, .agg (eOpd o_1))] rfl rfl rfl ?_
  unfold p_dyehouselaw12_IrAsks_2 at h
  refine U_seq ?_
  refine U_reg ?_
  simp only [SQ, ty58, sOpd, n1, n2, n3, n4, n5, n6]
  refine N_box s0 rfl fun d1 H1 s1 => ?_
  simp only [SQ, ty58, n1, n2, n3, n4, n5, n6]
  refine N_box s1 rfl fun d2 H2 s2 => ?_
  simp only [SQ, n1, n2, n3, n4, n5, n6]
  refine hold_intro ?_
  refine U_seq ?_
  refine U_reg ?_
  simp only [SQ, ty58, ty3, s2.b 1 rfl, sOpd, fk58, s2.b 0 rfl, n1, n2, n3, n4, n5, n6]
  refine N_put 0 s2 rfl fun H3 s3 => ?_
  simp only [SQ, n1, n2, n3, n4, n5, n6]
  refine hold_intro ?_
  refine U_ret ?_
  replace h := Option.some.inj h
  subst h
  refine ⟨.agg [.int .i64 o_1.kind, .int .i64 o_1.cls, .int .i64 o_1.tag, .int .i64 o_1.n], by simp only [ires, iress, Try.results45, SQ, List.toList_toArray, s3.b 0 rfl, ty58, n1, n2, n3, n4, n5, n6], ?_⟩
  exact Fz_agg (.cons (.cl (closed_int _ _)) (.cons (.cl (closed_int _ _)) (.cons (.cl (closed_int _ _)) (.cons (.cl (closed_int _ _)) (.nil)))))

theorem w_ir_turned_at_dyehouselaw12_IrAsks_2 {fuel : Nat} {l_1 : List Opd} {r0_ : List Opd} (h : p_ir_turned_at_dyehouselaw12_IrAsks_2 fuel l_1 = some r0_) : Pure1 Try.prog 104 [.sim (l_1.map eOpd) false, .fn (.func 45) [] []] (.sim (r0_.map eOpd) false) := by
  refine Pure1_S (all_cl (cl_map cl_eOpd l_1) (all_cl (closed_fn _) all_cl0)) fun F H s0 => ?_
  refine U_call 0 Try.func104 rfl (by kernel_rfl) (by simp [Try.ntmps104]) ?_
  rw [Try.ntmps104]
  refine U_fr 26 [(0, .sim (l_1.map eOpd) false), (1, .fn (.func 45) [] [])] rfl rfl rfl ?_
  unfold p_ir_turned_at_dyehouselaw12_IrAsks_2 at h
  refine U_seq ?_
  refine U_reg ?_
  simp only [SQ, n1, n2, n3, n4, n5, n6]
  refine hold_intro ?_
  refine U_seq ?_
  obtain ⟨l1, kl1, h⟩ := bndO h
  refine U_reg ?_
  simp only [SQ, len_sim ty23 rfl, ty23, ty58, imk_some (d := 10) (f := eOpd) ty23 rfl ty58 rfl rfl (by decide) kl1, n1, n2, n3, n4, n5, n6]
  refine N_sl l1 R58i s0 rfl rfl (by first | rfl | simp only [SQ]) (by first | rfl | simp only [List.length_map, List.length_replicate]) (zip_flat rfl) ?_
  intro v1 H1 s1
  simp only [SQ, n1, n2, n3, n4, n5, n6]
  refine hold_intro ?_
  refine U_seq ?_
  refine U_seq ?_
  refine U_reg ?_
  simp only [SQ, len_sim ty23 rfl, n1, n2, n3, n4, n5, n6]
  refine hold_intro ?_
  refine U_fr 26 [(1, .fn (.func 45) [] []), (5, v1), (11, .sim (l_1.map eOpd) false), (12, .int .i64 (l_1.length : Int)), (13, .int .i64 0)] rfl rfl rfl ?_
  obtain ⟨u1, he1, h⟩ := bndE h
  refine U_cut (fun a' H' => ∃ x_1 : Int, ∃ out_1 : List Opd, u1 = .n (x_1, out_1) ∧ Fi a' 26 [(1, .fn (.func 45) [] []), (5, v1)] ∧ HS F [sl R58i v1 out_1] H') (U_block (U_loop (fun z_ a' H' => match z_ with | (m1, x_1, out_1) => loopE m1 (fun s => p_ir_turned_at_dyehouselaw12_IrAsks_2_b1 fuel l_1 s.1 s.2) (x_1, out_1) = some u1 ∧ Fi a' 26 [(1, .fn (.func 45) [] []), (5, v1), (11, .sim (l_1.map eOpd) false), (12, .int .i64 (l_1.length : Int)), (13, .int .i64 x_1)] ∧ HS F [sl R58i v1 out_1] H' : (Nat × Int × (List Opd)) → Fr → Heap → Prop) (fun z_ : Nat × Int × (List Opd) => z_.1) (fuel, 0, l1) ?_ ?_)) ?_
  · exact ⟨he1, ⟨rfl, rfl, rfl⟩, s1⟩
  ·
    rintro ⟨m1, x_1, out_1⟩ a1 H2 ⟨hf1, f1, s2⟩
    refine U_fi f1 ?_
    obtain ⟨m1', m1_lt, u2, hr1, hl2⟩ := loopE_step hf1
    replace hr1 : p_ir_turned_at_dyehouselaw12_IrAsks_2_b1 fuel l_1 x_1 out_1 = some u2 := hr1
    unfold p_ir_turned_at_dyehouselaw12_IrAsks_2_b1 at hr1
    refine U_seq ?_
    refine U_reg ?_
    simp only [SQ, n1, n2, n3, n4, n5, n6]
    refine hold_intro ?_
    refine U_seq ?_
    rcases Bool.eq_false_or_eq_true (decide (x_1 < (l_1.length : Int))) with hb1 | hb1
    ·
      rw [if_pos hb1] at hr1
      refine U_condT (by simp only [SQ, hb1, n1, n2, n3, n4, n5, n6]) ?_
      refine U_skip ?_
      refine U_seq ?_
      refine U_block ?_
      refine U_seq ?_
      obtain ⟨x1, kx1, hr1⟩ := bndO hr1
      refine U_reg ?_
      simp only [SQ, ty23, ty58, iia_sim (f := eOpd) ty23 rfl ty58 kx1 rfl, row_sim (f := eOpd) kx1, sOpd, hb1, n1, n2, n3, n4, n5, n6]
      refine N_box s2 rfl fun d1 H3 s3 => ?_
      simp only [SQ, ty58, sOpd, splice_all', s3.b 0 rfl, hb1, n1, n2, n3, n4, n5, n6]
      refine N_put 0 s3 rfl fun H4 s4 => ?_
      simp only [SQ, hb1, n1, n2, n3, n4, n5, n6]
      refine hold_intro ?_
      refine U_fr 26 [(1, .fn (.func 45) [] []), (5, v1), (6, .int .i64 x_1), (7, .pb d1 0 0), (11, .sim (l_1.map eOpd) false), (12, .int .i64 (l_1.length : Int)), (13, .int .i64 x_1)] rfl rfl rfl ?_
      obtain ⟨r1, kr1, hr1⟩ := bndO hr1
      obtain ⟨x2, kx2, hr1⟩ := bndO hr1
      obtain ⟨l2, kl2, hr1⟩ := bndO hr1
      refine U_reg ?_
      simp only [SQ, ty58, s4.b 0 rfl, sOpd, hb1, n1, n2, n3, n4, n5, n6]
      refine callP (w_dyehouselaw12_IrAsks_2 kr1) ?_
      obtain ⟨w1_i, w1_r, w1_a, w1_1⟩ := s4.at (P := Try.prog) (k := .i64) 1 rfl ty23 rfl ty58 rfl kx2
      simp only [SQ, ty23, ty58, w1_1, hb1, n1, n2, n3, n4, n5, n6]
      refine N_st (y := r1) 1 s4 rfl w1_a kx2 ty58 rfl (by first | rfl | simp only [SQ, sOpd, splice_all', hb1, n1, n2, n3, n4, n5, n6]) (by first | decide | simp only [SQ, sOpd, splice_all', hb1, n1, n2, n3, n4, n5, n6] <;> decide) (by simp only [SQ, sOpd, splice_all', hb1, n1, n2, n3, n4, n5, n6]) (by first | rfl | simp only [SQ, sOpd, splice_all', hb1, n1, n2, n3, n4, n5, n6] <;> rfl) kl2 fun H5 s5 => ?_
      simp only [SQ, hb1, n1, n2, n3, n4, n5, n6]
      refine hold_intro ?_
      refine U_reg ?_
      simp only [SQ, hb1, n1, n2, n3, n4, n5, n6]
      refine hold_intro ?_
      replace hr1 := Option.some.inj hr1
      subst hr1
      exact ⟨(m1', IntKind.wrap .i64 (x_1 + 1), l2), m1_lt, hl2, ⟨rfl, rfl, by first | rfl | simp only [SQ, hb1, n1, n2, n3, n4, n5, n6]⟩, s5.sel [1] (by decide)⟩
    ·
      rw [if_neg (by rw [hb1]; decide)] at hr1
      refine U_condF (by simp only [SQ, hb1, n1, n2, n3, n4, n5, n6]) ?_
      refine U_exit rfl ?_
      replace hr1 := Option.some.inj hr1
      subst hr1
      exact ⟨_, _, hl2, ⟨rfl, rfl, by first | rfl | simp only [SQ, hb1, n1, n2, n3, n4, n5, n6]⟩, s2⟩
  ·
    rintro a2 H6 ⟨x_2, out_2, rfl, f2, s6⟩
    replace h := outE_n h
    dsimp only at h
    refine U_fi f2 ?_
    refine U_seq ?_
    refine U_reg ?_
    simp only [SQ, n1, n2, n3, n4, n5, n6]
    refine hold_intro ?_
    refine U_ret ?_
    replace h := Option.some.inj h
    subst h
    refine ⟨v1, by simp only [ires, iress, Try.results104, SQ, List.toList_toArray, n1, n2, n3, n4, n5, n6], ?_⟩
    exact s6.fzS 0 rfl

theorem w_ir_MapInstr_at_dyehouselaw12_IrAsks_2 {fuel : Nat} {i_1 : Ins} {r0_ : Ins} (h : p_ir_MapInstr_at_dyehouselaw12_IrAsks_2 fuel i_1 = some r0_) : Pure1 Try.prog 43 [.agg (eIns i_1), .fn (.func 45) [] []] (.agg (eIns r0_)) := by
  refine Pure1_S (all_cl (cl_agg (cl_eIns _)) (all_cl (closed_fn _) all_cl0)) fun F H s0 => ?_
  refine U_call 0 Try.func43 rfl (by kernel_rfl) (by simp [Try.ntmps43]) ?_
  rw [Try.ntmps43]
  refine U_fr 19 [(0, .agg (eIns i_1)), (1, .fn (.func 45) [] [])] rfl rfl rfl ?_
  unfold p_ir_MapInstr_at_dyehouselaw12_IrAsks_2 at h
  refine U_seq ?_
  refine U_reg ?_
  simp only [SQ, ty66, sIns, n1, n2, n3, n4, n5, n6]
  refine N_box s0 rfl fun d1 H1 s1 => ?_
  simp only [SQ, ty66, n1, n2, n3, n4, n5, n6]
  refine N_box s1 rfl fun d2 H2 s2 => ?_
  simp only [SQ, n1, n2, n3, n4, n5, n6]
  refine hold_intro ?_
  refine U_seq ?_
  obtain ⟨r1, kr1, h⟩ := bndO h
  refine U_reg ?_
  simp only [SQ, ty66, s2.b 1 rfl, sIns, n1, n2, n3, n4, n5, n6]
  refine callP (w_ir_CopyInstr kr1) ?_
  simp only [SQ, ty66, n1, n2, n3, n4, n5, n6]
  refine N_box s2 rfl fun d3 H3 s3 => ?_
  simp only [SQ, ty66, sIns, splice_all', s3.b 0 rfl, n1, n2, n3, n4, n5, n6]
  refine N_put 0 s3 rfl fun H4 s4 => ?_
  simp only [SQ, n1, n2, n3, n4, n5, n6]
  refine hold_intro ?_
  refine U_seq ?_
  obtain ⟨r2, kr2, h⟩ := bndO h
  refine U_reg ?_
  simp only [SQ, ty66, ty58, s4.b 2 rfl, sIns, n1, n2, n3, n4, n5, n6]
  refine callP (w_dyehouselaw12_IrAsks_2 kr2) ?_
  simp only [SQ, ty66, ty58, sOpd, xOpd, sIns, s4.b 0 rfl, n1, n2, n3, n4, n5, n6]
  refine N_put 0 s4 rfl fun H5 s5 => ?_
  simp only [SQ, n1, n2, n3, n4, n5, n6]
  refine hold_intro ?_
  refine U_seq ?_
  obtain ⟨r3, kr3, h⟩ := bndO h
  refine U_reg ?_
  simp only [SQ, ty66, ty23, s5.b 2 rfl, sIns, n1, n2, n3, n4, n5, n6]
  refine callP (w_ir_turned_at_dyehouselaw12_IrAsks_2 kr3) ?_
  simp only [SQ, ty66, ty23, s5.b 0 rfl, n1, n2, n3, n4, n5, n6]
  refine N_put 0 s5 rfl fun H6 s6 => ?_
  simp only [SQ, n1, n2, n3, n4, n5, n6]
  refine hold_intro ?_
  refine U_seq ?_
  refine U_fr 19 [(1, .fn (.func 45) [] []), (4, .pb d2 0 0), (5, .pb d3 0 0)] rfl rfl rfl ?_
  refine U_reg ?_
  simp only [SQ, ty66, s6.b 0 rfl, s6.b 1 rfl, n1, n2, n3, n4, n5, n6]
  refine N_put 1 s6 rfl fun H7 s7 => ?_
  simp only [SQ, n1, n2, n3, n4, n5, n6]
  refine hold_intro ?_
  refine U_ret ?_
  replace h := Option.some.inj h
  subst h
  refine ⟨.agg [.int .i64 r1.op, .int .i64 r2.kind, .int .i64 r2.cls, .int .i64 r2.n, .int .i64 r2.tag, .sim (r3.map eOpd) false, .str r1.name, .int .i64 r1.off, .sim (r1.labels.map eStr) false, .sim (r1.cases.map eInt) false], by simp only [ires, iress, Try.results43, SQ, List.toList_toArray, s7.b 1 rfl, ty66, n1, n2, n3, n4, n5, n6], ?_⟩
  exact Fz_agg (.cons (.cl (closed_int _ _)) (.cons (.cl (closed_int _ _)) (.cons (.cl (closed_int _ _)) (.cons (.cl (closed_int _ _)) (.cons (.cl (closed_int _ _)) (.cons (.cl (cl_map cl_eOpd r3)) (.cons (.cl (closed_str _)) (.cons (.cl (closed_int _ _)) (.cons (.cl (cl_map cl_eStr r1.labels)) (.cons (.cl (cl_map cl_eInt r1.cases)) (.nil)))))))))))

theorem w_dyehouseref12_Value {fuel : Nat} {o_1 : Opd} {r0_ : Int} {r1_ : Bool} (h : p_dyehouseref12_Value fuel o_1 = some (r0_, r1_)) : Pure1 Try.prog 47 [.agg (eOpd o_1)] (.tup [.int .i64 r0_, .bool r1_]) := by
  refine Pure1_S (all_cl (cl_agg (cl_eOpd _)) all_cl0) fun F H s0 => ?_
  refine U_call 0 Try.func47 rfl (by kernel_rfl) (by simp [Try.ntmps47]) ?_
  rw [Try.ntmps47]
  refine U_fr 19 [(0, .agg (eOpd o_1))] rfl rfl rfl ?_
  unfold p_dyehouseref12_Value at h
  refine U_seq ?_
  refine U_reg ?_
  simp only [SQ, ty58, sOpd, n1, n2, n3, n4, n5, n6]
  refine N_box s0 rfl fun d1 H1 s1 => ?_
  simp only [SQ, n1, n2, n3, n4, n5, n6]
  refine hold_intro ?_
  refine U_seq ?_
  refine U_seq ?_
  refine U_reg ?_
  simp only [SQ, ty58, ty3, s1.b 0 rfl, sOpd, n1, n2, n3, n4, n5, n6]
  refine hold_intro ?_
  rcases Bool.eq_false_or_eq_true (decide (o_1.kind = 1)) with hb1 | hb1
  ·
    rw [if_pos hb1] at h
    refine U_condT (by simp only [SQ, hb1, n1, n2, n3, n4, n5, n6]) ?_
    refine U_seq ?_
    refine U_reg ?_
    simp only [SQ, ty58, ty3, s1.b 0 rfl, sOpd, hb1, n1, n2, n3, n4, n5, n6]
    refine hold_intro ?_
    refine U_ret ?_
    replace h := Option.some.inj h
    obtain ⟨q1, q2⟩ := Prod.mk.inj h
    clear h
    subst q1
    subst q2
    refine ⟨.tup [.int .i64 o_1.n, .bool true], by simp only [ires, iress, Try.results47, SQ, List.toList_toArray, hb1, n1, n2, n3, n4, n5, n6], ?_⟩
    exact Fz_tup (.cons (.cl (closed_int _ _)) (.cons (.cl (closed_bool _)) (.nil)))
  ·
    rw [if_neg (by rw [hb1]; decide)] at h
    refine U_condF (by simp only [SQ, hb1, n1, n2, n3, n4, n5, n6]) ?_
    refine U_skip ?_
    refine U_seq ?_
    refine U_fr 19 [(1, .pb d1 0 0), (2, .int .i64 0), (3, .bool false)] rfl rfl rfl ?_
    refine U_cut (fun a' H' => Fi a' 19 [(2, .int .i64 o_1.tag), (3, .bool ((decide (o_1.kind = 2)) || (decide (o_1.kind = 3))))] ∧ H1 = H') ?_ ?_
    · refine U_drawQ hm [0, 1, 0, 4, 12, 28, 60, 124, 252, 508, 63, 2047] false 11 (by decide +kernel) (by decide) ?_
      rcases Bool.eq_false_or_eq_true (decide (o_1.kind = 2)) with hb2 | hb2
      ·
        simp only [SQ, ty58, ty3, s1.b 0 rfl, sOpd, hb1, hb2, n1, n2, n3, n4, n5, n6]
        refine hold_intro ?_
        exact ⟨⟨rfl, rfl, by first | rfl | simp only [SQ, hb1, hb2, n1, n2, n3, n4, n5, n6]⟩, rfl⟩
      ·
        simp only [SQ, ty58, ty3, s1.b 0 rfl, sOpd, hb1, hb2, n1, n2, n3, n4, n5, n6]
        refine hold_intro ?_
        exact ⟨⟨rfl, rfl, by first | rfl | simp only [SQ, hb1, hb2, n1, n2, n3, n4, n5, n6]⟩, rfl⟩
    · rintro a1 _ ⟨f1, rfl⟩
      refine U_fi f1 ?_
      refine U_ret ?_
      replace h := Option.some.inj h
      obtain ⟨q3, q4⟩ := Prod.mk.inj h
      clear h
      subst q3
      subst q4
      refine ⟨.tup [.int .i64 o_1.tag, .bool ((decide (o_1.kind = 2)) || (decide (o_1.kind = 3)))], by simp only [ires, iress, Try.results47, SQ, List.toList_toArray, hb1, n1, n2, n3, n4, n5, n6], ?_⟩
      exact Fz_tup (.cons (.cl (closed_int _ _)) (.cons (.cl (closed_bool _)) (.nil)))

theorem w_dyehouseref12_same {fuel : Nat} {av_1 : List Opd} {b_1 : List Opd} {r0_ : Bool} (h : p_dyehouseref12_same fuel av_1 b_1 = some r0_) : Pure1 Try.prog 99 [.sim (av_1.map eOpd) false, .sim (b_1.map eOpd) false] (.bool r0_) := by
  refine Pure1_S (all_cl (cl_map cl_eOpd av_1) (all_cl (cl_map cl_eOpd b_1) all_cl0)) fun F H s0 => ?_
  refine U_call 0 Try.func99 rfl (by kernel_rfl) (by simp [Try.ntmps99]) ?_
  rw [Try.ntmps99]
  refine U_fr 26 [(0, .sim (av_1.map eOpd) false), (1, .sim (b_1.map eOpd) false)] rfl rfl rfl ?_
  unfold p_dyehouseref12_same at h
  refine U_seq ?_
  refine U_reg ?_
  simp only [SQ, n1, n2, n3, n4, n5, n6]
  refine hold_intro ?_
  refine U_seq ?_
  refine U_seq ?_
  refine U_reg ?_
  simp only [SQ, len_sim ty23 rfl, n1, n2, n3, n4, n5, n6]
  refine hold_intro ?_
  rcases Bool.eq_false_or_eq_true (decide ((av_1.length : Int) ≠ (b_1.length : Int))) with hb1 | hb1
  ·
    rw [if_pos hb1] at h
    refine U_condT (by simp only [SQ, hb1, n1, n2, n3, n4, n5, n6]) ?_
    refine U_seq ?_
    refine U_reg ?_
    simp only [SQ, hb1, n1, n2, n3, n4, n5, n6]
    refine hold_intro ?_
    refine U_ret ?_
    replace h := Option.some.inj h
    subst h
    refine ⟨.bool false, by simp only [ires, iress, Try.results99, SQ, List.toList_toArray, hb1, n1, n2, n3, n4, n5, n6], ?_⟩
    exact .cl (closed_bool _)
  ·
    rw [if_neg (by rw [hb1]; decide)] at h
    refine U_condF (by simp only [SQ, hb1, n1, n2, n3, n4, n5, n6]) ?_
    refine U_skip ?_
    refine U_seq ?_
    refine U_seq ?_
    refine U_reg ?_
    simp only [SQ, hb1, n1, n2, n3, n4, n5, n6]
    refine hold_intro ?_
    refine U_fr 26 [(0, .sim (av_1.map eOpd) false), (1, .sim (b_1.map eOpd) false), (5, .int .i64 0)] rfl rfl rfl ?_
    obtain ⟨u1, he1, h⟩ := bndE h
    obtain ⟨hhi1, hlo1, he1⟩ := toE_facts he1
    refine U_cut (fun a' H' => u1 = .n () ∧ Fi a' 26 [] ∧ HS F [] H') (U_block (U_loop (fun z_ a' H' => match z_ with | i1 => forE ((av_1.length : Int) - i1).toNat i1 (fun i _ => p_dyehouseref12_same_b1 fuel av_1 b_1 i) () = some u1 ∧ 0 ≤ i1 ∧ Fi a' 26 [(0, .sim (av_1.map eOpd) false), (1, .sim (b_1.map eOpd) false), (5, .int .i64 i1)] ∧ HS F [] H' : Int → Fr → Heap → Prop) (fun z_ : Int => ((av_1.length : Int) - z_).toNat) 0 ?_ ?_)) ?_
    · exact ⟨he1, Int.le_refl _, ⟨rfl, rfl, by first | rfl | simp only [SQ, hb1, n1, n2, n3, n4, n5, n6]⟩, s0⟩
    ·
      rintro i1 a1 H1 ⟨hf1, hl1, f1, s1⟩
      refine U_fi f1 ?_
      by_cases hlt1 : i1 < (av_1.length : Int)
      ·
        obtain ⟨u2, hr1, hl2⟩ := forE_step hf1 hlt1
        replace hr1 : p_dyehouseref12_same_b1 fuel av_1 b_1 i1 = some u2 := hr1
        unfold p_dyehouseref12_same_b1 at hr1
        have hw1 := wrap_next hlt1 hhi1 hlo1 hl1
        have hlt1_t : decide (i1 < (av_1.length : Int)) = true := decide_eq_true hlt1
        refine U_seq (U_seq ?_)
        refine U_reg ?_
        simp only [SQ, len_sim ty23 rfl, hb1, hw1, hlt1_t, n1, n2, n3, n4, n5, n6]
        refine hold_intro ?_
        refine U_condT (by simp only [SQ, hb1, hw1, hlt1_t, n1, n2, n3, n4, n5, n6]) (U_skip ?_)
        refine U_seq ?_
        refine U_block ?_
        refine U_seq ?_
        obtain ⟨x1, kx1, hr1⟩ := bndO hr1
        obtain ⟨x2, kx2, hr1⟩ := bndO hr1
        refine U_drawQ hm [0, 0, 3, 7, 0, 0, 48, 112, 255] false 8 (by decide +kernel) (by decide) ?_
        simp only [SQ, ty23, ty58, iia_sim (f := eOpd) ty23 rfl ty58 kx1 rfl, row_sim (f := eOpd) kx1, sOpd, iia_sim (f := eOpd) ty23 rfl ty58 kx2 rfl, row_sim (f := eOpd) kx2, qOpd, hb1, hw1, hlt1_t, n1, n2, n3, n4, n5, n6]
        refine hold_intro ?_
        rcases Bool.eq_false_or_eq_true ((!decide (x1 = x2))) with hb2 | hb2
        ·
          rw [if_pos hb2] at hr1
          refine U_condT (by simp only [SQ, hb1, hw1, hlt1_t, hb2, n1, n2, n3, n4, n5, n6]) ?_
          refine U_seq ?_
          refine U_fr 26 [] rfl rfl rfl ?_
          refine U_reg ?_
          simp only [SQ, hb1, hw1, hlt1_t, hb2, n1, n2, n3, n4, n5, n6]
          refine hold_intro ?_
          refine U_ret ?_
          replace hr1 := Option.some.inj hr1
          subst hr1
          replace hl2 : u1 = .r _ := hl2
          subst hl2
          replace h := outE_r h
          replace h := Option.some.inj h
          subst h
          refine ⟨.bool false, by simp only [ires, iress, Try.results99, SQ, List.toList_toArray, hb1, hw1, hlt1_t, hb2, n1, n2, n3, n4, n5, n6], ?_⟩
          exact .cl (closed_bool _)
        ·
          rw [if_neg (by rw [hb2]; decide)] at hr1
          refine U_condF (by simp only [SQ, hb1, hw1, hlt1_t, hb2, n1, n2, n3, n4, n5, n6]) ?_
          refine U_skip ?_
          refine U_reg ?_
          simp only [SQ, hb1, hw1, hlt1_t, hb2, n1, n2, n3, n4, n5, n6]
          refine hold_intro ?_
          replace hr1 := Option.some.inj hr1
          subst hr1
          refine ⟨i1 + 1, ?_, hl2, Int.le_add_one hl1, ⟨rfl, rfl, by first | rfl | simp only [SQ, hb1, hw1, hlt1_t, hb2, n1, n2, n3, n4, n5, n6]⟩, s1⟩
          show ((av_1.length : Int) - (i1 + 1)).toNat < ((av_1.length : Int) - i1).toNat; omega
      ·
        have hlt1_e := forE_end hf1 hlt1
        have hlt1_t : decide (i1 < (av_1.length : Int)) = false := decide_eq_false hlt1
        refine U_seq (U_seq ?_)
        refine U_reg ?_
        simp only [SQ, len_sim ty23 rfl, hb1, hlt1_t, n1, n2, n3, n4, n5, n6]
        refine hold_intro ?_
        refine U_condF (by simp only [SQ, hb1, hlt1_t, n1, n2, n3, n4, n5, n6]) (U_exit rfl ?_)
        exact ⟨hlt1_e, ⟨rfl, rfl, by first | rfl | simp only [SQ, hb1, hlt1_t, n1, n2, n3, n4, n5, n6]⟩, s1⟩
    ·
      rintro a2 H2 ⟨rfl, f2, s2⟩
      replace h := outE_n h
      refine U_fi f2 ?_
      refine U_seq ?_
      refine U_reg ?_
      simp only [SQ, hb1, n1, n2, n3, n4, n5, n6]
      refine hold_intro ?_
      refine U_ret ?_
      replace h := Option.some.inj h
      subst h
      refine ⟨.bool true, by simp only [ires, iress, Try.results99, SQ, List.toList_toArray, hb1, n1, n2, n3, n4, n5, n6], ?_⟩
      exact .cl (closed_bool _)

theorem w_dyehouseref12_Texts {fuel : Nat} {av_1 : List ByteArray} {b_1 : List ByteArray} {r0_ : Bool} (h : p_dyehouseref12_Texts fuel av_1 b_1 = some r0_) : Pure1 Try.prog 107 [.sim (av_1.map eStr) false, .sim (b_1.map eStr) false] (.bool r0_) := by
  refine Pure1_S (all_cl (cl_map cl_eStr av_1) (all_cl (cl_map cl_eStr b_1) all_cl0)) fun F H s0 => ?_
  refine U_call 0 Try.func107 rfl (by kernel_rfl) (by simp [Try.ntmps107]) ?_
  rw [Try.ntmps107]
  refine U_fr 26 [(0, .sim (av_1.map eStr) false), (1, .sim (b_1.map eStr) false)] rfl rfl rfl ?_
  unfold p_dyehouseref12_Texts at h
  refine U_seq ?_
  refine U_reg ?_
  simp only [SQ, n1, n2, n3, n4, n5, n6]
  refine hold_intro ?_
  refine U_seq ?_
  refine U_seq ?_
  refine U_reg ?_
  simp only [SQ, len_sim ty64 rfl, n1, n2, n3, n4, n5, n6]
  refine hold_intro ?_
  rcases Bool.eq_false_or_eq_true (decide ((av_1.length : Int) ≠ (b_1.length : Int))) with hb1 | hb1
  ·
    rw [if_pos hb1] at h
    refine U_condT (by simp only [SQ, hb1, n1, n2, n3, n4, n5, n6]) ?_
    refine U_seq ?_
    refine U_reg ?_
    simp only [SQ, hb1, n1, n2, n3, n4, n5, n6]
    refine hold_intro ?_
    refine U_ret ?_
    replace h := Option.some.inj h
    subst h
    refine ⟨.bool false, by simp only [ires, iress, Try.results107, SQ, List.toList_toArray, hb1, n1, n2, n3, n4, n5, n6], ?_⟩
    exact .cl (closed_bool _)
  ·
    rw [if_neg (by rw [hb1]; decide)] at h
    refine U_condF (by simp only [SQ, hb1, n1, n2, n3, n4, n5, n6]) ?_
    refine U_skip ?_
    refine U_seq ?_
    refine U_seq ?_
    refine U_reg ?_
    simp only [SQ, hb1, n1, n2, n3, n4, n5, n6]
    refine hold_intro ?_
    refine U_fr 26 [(0, .sim (av_1.map eStr) false), (1, .sim (b_1.map eStr) false), (5, .int .i64 0)] rfl rfl rfl ?_
    obtain ⟨u1, he1, h⟩ := bndE h
    obtain ⟨hhi1, hlo1, he1⟩ := toE_facts he1
    refine U_cut (fun a' H' => u1 = .n () ∧ Fi a' 26 [] ∧ HS F [] H') (U_block (U_loop (fun z_ a' H' => match z_ with | i1 => forE ((av_1.length : Int) - i1).toNat i1 (fun i _ => p_dyehouseref12_Texts_b1 fuel av_1 b_1 i) () = some u1 ∧ 0 ≤ i1 ∧ Fi a' 26 [(0, .sim (av_1.map eStr) false), (1, .sim (b_1.map eStr) false), (5, .int .i64 i1)] ∧ HS F [] H' : Int → Fr → Heap → Prop) (fun z_ : Int => ((av_1.length : Int) - z_).toNat) 0 ?_ ?_)) ?_
    · exact ⟨he1, Int.le_refl _, ⟨rfl, rfl, by first | rfl | simp only [SQ, hb1, n1, n2, n3, n4, n5, n6]⟩, s0⟩
    ·
      rintro i1 a1 H1 ⟨hf1, hl1, f1, s1⟩
      refine U_fi f1 ?_
      by_cases hlt1 : i1 < (av_1.length : Int)
      ·
        obtain ⟨u2, hr1, hl2⟩ := forE_step hf1 hlt1
        replace hr1 : p_dyehouseref12_Texts_b1 fuel av_1 b_1 i1 = some u2 := hr1
        unfold p_dyehouseref12_Texts_b1 at hr1
        have hw1 := wrap_next hlt1 hhi1 hlo1 hl1
        have hlt1_t : decide (i1 < (av_1.length : Int)) = true := decide_eq_true hlt1
        refine U_seq (U_seq ?_)
        refine U_reg ?_
        simp only [SQ, len_sim ty64 rfl, hb1, hw1, hlt1_t, n1, n2, n3, n4, n5, n6]
        refine hold_intro ?_
        refine U_condT (by simp only [SQ, hb1, hw1, hlt1_t, n1, n2, n3, n4, n5, n6]) (U_skip ?_)
        refine U_seq ?_
        refine U_block ?_
        refine U_seq ?_
        obtain ⟨x1, kx1, hr1⟩ := bndO hr1
        obtain ⟨x2, kx2, hr1⟩ := bndO hr1
        refine U_drawQ hm [0, 0, 3, 7, 0, 0, 48, 112, 255] false 8 (by decide +kernel) (by decide) ?_
        simp only [SQ, ty64, ty9, iia_sim (f := eStr) ty64 rfl ty9 kx1 rfl, row_sim (f := eStr) kx1, iia_sim (f := eStr) ty64 rfl ty9 kx2 rfl, row_sim (f := eStr) kx2, hb1, hw1, hlt1_t, n1, n2, n3, n4, n5, n6]
        refine hold_intro ?_
        rcases Bool.eq_false_or_eq_true (decide (x1 ≠ x2)) with hb2 | hb2
        ·
          rw [if_pos hb2] at hr1
          refine U_condT (by simp only [SQ, hb1, hw1, hlt1_t, hb2, n1, n2, n3, n4, n5, n6]) ?_
          refine U_seq ?_
          refine U_fr 26 [] rfl rfl rfl ?_
          refine U_reg ?_
          simp only [SQ, hb1, hw1, hlt1_t, hb2, n1, n2, n3, n4, n5, n6]
          refine hold_intro ?_
          refine U_ret ?_
          replace hr1 := Option.some.inj hr1
          subst hr1
          replace hl2 : u1 = .r _ := hl2
          subst hl2
          replace h := outE_r h
          replace h := Option.some.inj h
          subst h
          refine ⟨.bool false, by simp only [ires, iress, Try.results107, SQ, List.toList_toArray, hb1, hw1, hlt1_t, hb2, n1, n2, n3, n4, n5, n6], ?_⟩
          exact .cl (closed_bool _)
        ·
          rw [if_neg (by rw [hb2]; decide)] at hr1
          refine U_condF (by simp only [SQ, hb1, hw1, hlt1_t, hb2, n1, n2, n3, n4, n5, n6]) ?_
          refine U_skip ?_
          refine U_reg ?_
          simp only [SQ, hb1, hw1, hlt1_t, hb2, n1, n2, n3, n4, n5, n6]
          refine hold_intro ?_
          replace hr1 := Option.some.inj hr1
          subst hr1
          refine ⟨i1 + 1, ?_, hl2, Int.le_add_one hl1, ⟨rfl, rfl, by first | rfl | simp only [SQ, hb1, hw1, hlt1_t, hb2, n1, n2, n3, n4, n5, n6]⟩, s1⟩
          show ((av_1.length : Int) - (i1 + 1)).toNat < ((av_1.length : Int) - i1).toNat; omega
      ·
        have hlt1_e := forE_end hf1 hlt1
        have hlt1_t : decide (i1 < (av_1.length : Int)) = false := decide_eq_false hlt1
        refine U_seq (U_seq ?_)
        refine U_reg ?_
        simp only [SQ, len_sim ty64 rfl, hb1, hlt1_t, n1, n2, n3, n4, n5, n6]
        refine hold_intro ?_
        refine U_condF (by simp only [SQ, hb1, hlt1_t, n1, n2, n3, n4, n5, n6]) (U_exit rfl ?_)
        exact ⟨hlt1_e, ⟨rfl, rfl, by first | rfl | simp only [SQ, hb1, hlt1_t, n1, n2, n3, n4, n5, n6]⟩, s1⟩
    ·
      rintro a2 H2 ⟨rfl, f2, s2⟩
      replace h := outE_n h
      refine U_fi f2 ?_
      refine U_seq ?_
      refine U_reg ?_
      simp only [SQ, hb1, n1, n2, n3, n4, n5, n6]
      refine hold_intro ?_
      refine U_ret ?_
      replace h := Option.some.inj h
      subst h
      refine ⟨.bool true, by simp only [ires, iress, Try.results107, SQ, List.toList_toArray, hb1, n1, n2, n3, n4, n5, n6], ?_⟩
      exact .cl (closed_bool _)

theorem w_dyehouseref12_Ints {fuel : Nat} {av_1 : List Int} {b_1 : List Int} {r0_ : Bool} (h : p_dyehouseref12_Ints fuel av_1 b_1 = some r0_) : Pure1 Try.prog 19 [.sim (av_1.map eInt) false, .sim (b_1.map eInt) false] (.bool r0_) := by
  refine Pure1_S (all_cl (cl_map cl_eInt av_1) (all_cl (cl_map cl_eInt b_1) all_cl0)) fun F H s0 => ?_
  refine U_call 0 Try.func19 rfl (by kernel_rfl) (by simp [Try.ntmps19]) ?_
  rw [Try.ntmps19]
  refine U_fr 26 [(0, .sim (av_1.map eInt) false), (1, .sim (b_1.map eInt) false)] rfl rfl rfl ?_
  unfold p_dyehouseref12_Ints at h
  refine U_seq ?_
  refine U_reg ?_
  simp only [SQ, n1, n2, n3, n4, n5, n6]
  refine hold_intro ?_
  refine U_seq ?_
  refine U_seq ?_
  refine U_reg ?_
  simp only [SQ, len_sim ty37 rfl, n1, n2, n3, n4, n5, n6]
  refine hold_intro ?_
  rcases Bool.eq_false_or_eq_true (decide ((av_1.length : Int) ≠ (b_1.length : Int))) with hb1 | hb1
  ·
    rw [if_pos hb1] at h
    refine U_condT (by simp only [SQ, hb1, n1, n2, n3, n4, n5, n6]) ?_
    refine U_seq ?_
    refine U_reg ?_
    simp only [SQ, hb1, n1, n2, n3, n4, n5, n6]
    refine hold_intro ?_
    refine U_ret ?_
    replace h := Option.some.inj h
    subst h
    refine ⟨.bool false, by simp only [ires, iress, Try.results19, SQ, List.toList_toArray, hb1, n1, n2, n3, n4, n5, n6], ?_⟩
    exact .cl (closed_bool _)
  ·
    rw [if_neg (by rw [hb1]; decide)] at h
    refine U_condF (by simp only [SQ, hb1, n1, n2, n3, n4, n5, n6]) ?_
    refine U_skip ?_
    refine U_seq ?_
    refine U_seq ?_
    refine U_reg ?_
    simp only [SQ, hb1, n1, n2, n3, n4, n5, n6]
    refine hold_intro ?_
    refine U_fr 26 [(0, .sim (av_1.map eInt) false), (1, .sim (b_1.map eInt) false), (5, .int .i64 0)] rfl rfl rfl ?_
    obtain ⟨u1, he1, h⟩ := bndE h
    obtain ⟨hhi1, hlo1, he1⟩ := toE_facts he1
    refine U_cut (fun a' H' => u1 = .n () ∧ Fi a' 26 [] ∧ HS F [] H') (U_block (U_loop (fun z_ a' H' => match z_ with | i1 => forE ((av_1.length : Int) - i1).toNat i1 (fun i _ => p_dyehouseref12_Ints_b1 fuel av_1 b_1 i) () = some u1 ∧ 0 ≤ i1 ∧ Fi a' 26 [(0, .sim (av_1.map eInt) false), (1, .sim (b_1.map eInt) false), (5, .int .i64 i1)] ∧ HS F [] H' : Int → Fr → Heap → Prop) (fun z_ : Int => ((av_1.length : Int) - z_).toNat) 0 ?_ ?_)) ?_
    · exact ⟨he1, Int.le_refl _, ⟨rfl, rfl, by first | rfl | simp only [SQ, hb1, n1, n2, n3, n4, n5, n6]⟩, s0⟩
    ·
      rintro i1 a1 H1 ⟨hf1, hl1, f1, s1⟩
      refine U_fi f1 ?_
      by_cases hlt1 : i1 < (av_1.length : Int)
      ·
        obtain ⟨u2, hr1, hl2⟩ := forE_step hf1 hlt1
        replace hr1 : p_dyehouseref12_Ints_b1 fuel av_1 b_1 i1 = some u2 := hr1
        unfold p_dyehouseref12_Ints_b1 at hr1
        have hw1 := wrap_next hlt1 hhi1 hlo1 hl1
        have hlt1_t : decide (i1 < (av_1.length : Int)) = true := decide_eq_true hlt1
        refine U_seq (U_seq ?_)
        refine U_reg ?_
        simp only [SQ, len_sim ty37 rfl, hb1, hw1, hlt1_t, n1, n2, n3, n4, n5, n6]
        refine hold_intro ?_
        refine U_condT (by simp only [SQ, hb1, hw1, hlt1_t, n1, n2, n3, n4, n5, n6]) (U_skip ?_)
        refine U_seq ?_
        refine U_block ?_
        refine U_seq ?_
        obtain ⟨x1, kx1, hr1⟩ := bndO hr1
        obtain ⟨x2, kx2, hr1⟩ := bndO hr1
        refine U_drawQ hm [0, 0, 3, 7, 0, 0, 48, 112, 255] false 8 (by decide +kernel) (by decide) ?_
        simp only [SQ, ty37, ty3, iia_sim (f := eInt) ty37 rfl ty3 kx1 rfl, row_sim (f := eInt) kx1, iia_sim (f := eInt) ty37 rfl ty3 kx2 rfl, row_sim (f := eInt) kx2, hb1, hw1, hlt1_t, n1, n2, n3, n4, n5, n6]
        refine hold_intro ?_
        rcases Bool.eq_false_or_eq_true (decide (x1 ≠ x2)) with hb2 | hb2
        ·
          rw [if_pos hb2] at hr1
          refine U_condT (by simp only [SQ, hb1, hw1, hlt1_t, hb2, n1, n2, n3, n4, n5, n6]) ?_
          refine U_seq ?_
          refine U_fr 26 [] rfl rfl rfl ?_
          refine U_reg ?_
          simp only [SQ, hb1, hw1, hlt1_t, hb2, n1, n2, n3, n4, n5, n6]
          refine hold_intro ?_
          refine U_ret ?_
          replace hr1 := Option.some.inj hr1
          subst hr1
          replace hl2 : u1 = .r _ := hl2
          subst hl2
          replace h := outE_r h
          replace h := Option.some.inj h
          subst h
          refine ⟨.bool false, by simp only [ires, iress, Try.results19, SQ, List.toList_toArray, hb1, hw1, hlt1_t, hb2, n1, n2, n3, n4, n5, n6], ?_⟩
          exact .cl (closed_bool _)
        ·
          rw [if_neg (by rw [hb2]; decide)] at hr1
          refine U_condF (by simp only [SQ, hb1, hw1, hlt1_t, hb2, n1, n2, n3, n4, n5, n6]) ?_
          refine U_skip ?_
          refine U_reg ?_
          simp only [SQ, hb1, hw1, hlt1_t, hb2, n1, n2, n3, n4, n5, n6]
          refine hold_intro ?_
          replace hr1 := Option.some.inj hr1
          subst hr1
          refine ⟨i1 + 1, ?_, hl2, Int.le_add_one hl1, ⟨rfl, rfl, by first | rfl | simp only [SQ, hb1, hw1, hlt1_t, hb2, n1, n2, n3, n4, n5, n6]⟩, s1⟩
          show ((av_1.length : Int) - (i1 + 1)).toNat < ((av_1.length : Int) - i1).toNat; omega
      ·
        have hlt1_e := forE_end hf1 hlt1
        have hlt1_t : decide (i1 < (av_1.length : Int)) = false := decide_eq_false hlt1
        refine U_seq (U_seq ?_)
        refine U_reg ?_
        simp only [SQ, len_sim ty37 rfl, hb1, hlt1_t, n1, n2, n3, n4, n5, n6]
        refine hold_intro ?_
        refine U_condF (by simp only [SQ, hb1, hlt1_t, n1, n2, n3, n4, n5, n6]) (U_exit rfl ?_)
        exact ⟨hlt1_e, ⟨rfl, rfl, by first | rfl | simp only [SQ, hb1, hlt1_t, n1, n2, n3, n4, n5, n6]⟩, s1⟩
    ·
      rintro a2 H2 ⟨rfl, f2, s2⟩
      replace h := outE_n h
      refine U_fi f2 ?_
      refine U_seq ?_
      refine U_reg ?_
      simp only [SQ, hb1, n1, n2, n3, n4, n5, n6]
      refine hold_intro ?_
      refine U_ret ?_
      replace h := Option.some.inj h
      subst h
      refine ⟨.bool true, by simp only [ires, iress, Try.results19, SQ, List.toList_toArray, hb1, n1, n2, n3, n4, n5, n6], ?_⟩
      exact .cl (closed_bool _)

theorem w_dyehouseref12_Instr {fuel : Nat} {av_1 : Ins} {b_1 : Ins} {r0_ : Bool} (h : p_dyehouseref12_Instr fuel av_1 b_1 = some r0_) : Pure1 Try.prog 48 [.agg (eIns av_1), .agg (eIns b_1)] (.bool r0_) := by
  refine Pure1_S (all_cl (cl_agg (cl_eIns _)) (all_cl (cl_agg (cl_eIns _)) all_cl0)) fun F H s0 => ?_
  refine U_call 0 Try.func48 rfl (by kernel_rfl) (by simp [Try.ntmps48]) ?_
  rw [Try.ntmps48]
  refine U_fr 52 [(0, .agg (eIns av_1)), (1, .agg (eIns b_1))] rfl rfl rfl ?_
  unfold p_dyehouseref12_Instr at h
  refine U_seq ?_
  refine U_reg ?_
  simp only [SQ, ty66, sIns, n1, n2, n3, n4, n5, n6]
  refine N_box s0 rfl fun d1 H1 s1 => ?_
  simp only [SQ, ty66, sIns, n1, n2, n3, n4, n5, n6]
  refine N_box s1 rfl fun d2 H2 s2 => ?_
  simp only [SQ, n1, n2, n3, n4, n5, n6]
  refine hold_intro ?_
  refine U_seq ?_
  refine U_fr 52 [(2, .pb d1 0 0), (3, .pb d2 0 0), (4, .bool false)] rfl rfl rfl ?_
  obtain ⟨b1, kb1, h⟩ := bndO h
  obtain ⟨b2, kb2, h⟩ := bndO h
  obtain ⟨b3, kb3, h⟩ := bndO h
  refine U_cut (fun a' H' => Fi a' 52 [(4, .bool b3)] ∧ H2 = H') ?_ ?_
  · refine U_reg ?_
    rcases Bool.eq_false_or_eq_true (decide (av_1.op = b_1.op)) with hb1 | hb1
    ·
      rcases Bool.eq_false_or_eq_true (decide (av_1.dst = b_1.dst)) with hb2 | hb2
      ·
        have hx1 : ((decide (av_1.op = b_1.op)) && (decide (av_1.dst = b_1.dst))) = true := by simp only [SQ, hb1, hb2]
        rw [if_pos hx1] at kb1
        obtain ⟨r1, kr1, kb1⟩ := bndO kb1
        have hq1 := (Option.some.inj kb1).symm
        rcases Bool.eq_false_or_eq_true (r1) with hb3 | hb3
        ·
          rcases Bool.eq_false_or_eq_true (decide (av_1.name = b_1.name)) with hb4 | hb4
          ·
            rcases Bool.eq_false_or_eq_true (decide (av_1.off = b_1.off)) with hb5 | hb5
            ·
              have hx2 : ((b1 && (decide (av_1.name = b_1.name))) && (decide (av_1.off = b_1.off))) = true := by simp only [SQ, hb1, hb2, hq1, hb3, hb4, hb5]
              rw [if_pos hx2] at kb2
              obtain ⟨r2, kr2, kb2⟩ := bndO kb2
              have hq2 := (Option.some.inj kb2).symm
              rcases Bool.eq_false_or_eq_true (r2) with hb6 | hb6
              ·
                have hx3 : b2 = true := by simp only [SQ, hb1, hb2, hq1, hb3, hb4, hb5, hq2, hb6]
                rw [if_pos hx3] at kb3
                obtain ⟨r3, kr3, kb3⟩ := bndO kb3
                have hq3 := (Option.some.inj kb3).symm
                simp only [SQ, ty66, ty3, s2.b 1 rfl, sIns, s2.b 0 rfl, ty58, sOpd, qOpd, ty23, hb1, hb2, hq1, hb3, hb4, hb5, hq2, hb6, hq3, n1, n2, n3, n4, n5, n6]
                refine callP (w_dyehouseref12_same kr1) ?_
                simp only [SQ, ty66, ty9, s2.b 1 rfl, sIns, s2.b 0 rfl, ty3, ty64, hb1, hb2, hq1, hb3, hb4, hb5, hq2, hb6, hq3, n1, n2, n3, n4, n5, n6]
                refine callP (w_dyehouseref12_Texts kr2) ?_
                simp only [SQ, ty66, ty37, s2.b 1 rfl, sIns, s2.b 0 rfl, hb1, hb2, hq1, hb3, hb4, hb5, hq2, hb6, hq3, n1, n2, n3, n4, n5, n6]
                refine callP (w_dyehouseref12_Ints kr3) ?_
                simp only [SQ, hb1, hb2, hq1, hb3, hb4, hb5, hq2, hb6, hq3, n1, n2, n3, n4, n5, n6]
                refine hold_intro ?_
                exact ⟨⟨rfl, rfl, by first | rfl | simp only [SQ, hb1, hb2, hq1, hb3, hb4, hb5, hq2, hb6, hq3, n1, n2, n3, n4, n5, n6]⟩, rfl⟩
              ·
                have hx4 : b2 = false := by simp only [SQ, hb1, hb2, hq1, hb3, hb4, hb5, hq2, hb6]
                rw [if_neg (by rw [hx4]; decide)] at kb3
                have hq4 := (Option.some.inj kb3).symm
                simp only [SQ, ty66, ty3, s2.b 1 rfl, sIns, s2.b 0 rfl, ty58, sOpd, qOpd, ty23, hb1, hb2, hq1, hb3, hb4, hb5, hq2, hb6, hq4, n1, n2, n3, n4, n5, n6]
                refine callP (w_dyehouseref12_same kr1) ?_
                simp only [SQ, ty66, ty9, s2.b 1 rfl, sIns, s2.b 0 rfl, ty3, ty64, hb1, hb2, hq1, hb3, hb4, hb5, hq2, hb6, hq4, n1, n2, n3, n4, n5, n6]
                refine callP (w_dyehouseref12_Texts kr2) ?_
                simp only [SQ, hb1, hb2, hq1, hb3, hb4, hb5, hq2, hb6, hq4, n1, n2, n3, n4, n5, n6]
                refine hold_intro ?_
                exact ⟨⟨rfl, rfl, by first | rfl | simp only [SQ, hb1, hb2, hq1, hb3, hb4, hb5, hq2, hb6, hq4, n1, n2, n3, n4, n5, n6]⟩, rfl⟩
            ·
              have hx5 : ((b1 && (decide (av_1.name = b_1.name))) && (decide (av_1.off = b_1.off))) = false := by simp only [SQ, hb1, hb2, hq1, hb3, hb4, hb5]
              rw [if_neg (by rw [hx5]; decide)] at kb2
              have hq5 := (Option.some.inj kb2).symm
              have hx6 : b2 = false := by simp only [SQ, hb1, hb2, hq1, hb3, hb4, hb5, hq5]
              rw [if_neg (by rw [hx6]; decide)] at kb3
              have hq6 := (Option.some.inj kb3).symm
              simp only [SQ, ty66, ty3, s2.b 1 rfl, sIns, s2.b 0 rfl, ty58, sOpd, qOpd, ty23, hb1, hb2, hq1, hb3, hb4, hb5, hq5, hq6, n1, n2, n3, n4, n5, n6]
              refine callP (w_dyehouseref12_same kr1) ?_
              simp only [SQ, ty66, ty9, s2.b 1 rfl, sIns, s2.b 0 rfl, ty3, hb1, hb2, hq1, hb3, hb4, hb5, hq5, hq6, n1, n2, n3, n4, n5, n6]
              refine hold_intro ?_
              exact ⟨⟨rfl, rfl, by first | rfl | simp only [SQ, hb1, hb2, hq1, hb3, hb4, hb5, hq5, hq6, n1, n2, n3, n4, n5, n6]⟩, rfl⟩
          ·
            have hx7 : ((b1 && (decide (av_1.name = b_1.name))) && (decide (av_1.off = b_1.off))) = false := by simp only [SQ, hb1, hb2, hq1, hb3, hb4]
            rw [if_neg (by rw [hx7]; decide)] at kb2
            have hq7 := (Option.some.inj kb2).symm
            have hx8 : b2 = false := by simp only [SQ, hb1, hb2, hq1, hb3, hb4, hq7]
            rw [if_neg (by rw [hx8]; decide)] at kb3
            have hq8 := (Option.some.inj kb3).symm
            simp only [SQ, ty66, ty3, s2.b 1 rfl, sIns, s2.b 0 rfl, ty58, sOpd, qOpd, ty23, hb1, hb2, hq1, hb3, hb4, hq7, hq8, n1, n2, n3, n4, n5, n6]
            refine callP (w_dyehouseref12_same kr1) ?_
            simp only [SQ, ty66, ty9, s2.b 1 rfl, sIns, s2.b 0 rfl, hb1, hb2, hq1, hb3, hb4, hq7, hq8, n1, n2, n3, n4, n5, n6]
            refine hold_intro ?_
            exact ⟨⟨rfl, rfl, by first | rfl | simp only [SQ, hb1, hb2, hq1, hb3, hb4, hq7, hq8, n1, n2, n3, n4, n5, n6]⟩, rfl⟩
        ·
          have hx9 : ((b1 && (decide (av_1.name = b_1.name))) && (decide (av_1.off = b_1.off))) = false := by simp only [SQ, hb1, hb2, hq1, hb3]
          rw [if_neg (by rw [hx9]; decide)] at kb2
          have hq9 := (Option.some.inj kb2).symm
          have hx10 : b2 = false := by simp only [SQ, hb1, hb2, hq1, hb3, hq9]
          rw [if_neg (by rw [hx10]; decide)] at kb3
          have hq10 := (Option.some.inj kb3).symm
          simp only [SQ, ty66, ty3, s2.b 1 rfl, sIns, s2.b 0 rfl, ty58, sOpd, qOpd, ty23, hb1, hb2, hq1, hb3, hq9, hq10, n1, n2, n3, n4, n5, n6]
          refine callP (w_dyehouseref12_same kr1) ?_
          simp only [SQ, hb1, hb2, hq1, hb3, hq9, hq10, n1, n2, n3, n4, n5, n6]
          refine hold_intro ?_
          exact ⟨⟨rfl, rfl, by first | rfl | simp only [SQ, hb1, hb2, hq1, hb3, hq9, hq10, n1, n2, n3, n4, n5, n6]⟩, rfl⟩
      ·
        have hx11 : ((decide (av_1.op = b_1.op)) && (decide (av_1.dst = b_1.dst))) = false := by simp only [SQ, hb1, hb2]
        rw [if_neg (by rw [hx11]; decide)] at kb1
        have hq11 := (Option.some.inj kb1).symm
        have hx12 : ((b1 && (decide (av_1.name = b_1.name))) && (decide (av_1.off = b_1.off))) = false := by simp only [SQ, hb1, hb2, hq11]
        rw [if_neg (by rw [hx12]; decide)] at kb2
        have hq12 := (Option.some.inj kb2).symm
        have hx13 : b2 = false := by simp only [SQ, hb1, hb2, hq11, hq12]
        rw [if_neg (by rw [hx13]; decide)] at kb3
        have hq13 := (Option.some.inj kb3).symm
        simp only [SQ, ty66, ty3, s2.b 1 rfl, sIns, s2.b 0 rfl, ty58, sOpd, qOpd, hb1, hb2, hq11, hq12, hq13, n1, n2, n3, n4, n5, n6]
        refine hold_intro ?_
        exact ⟨⟨rfl, rfl, by first | rfl | simp only [SQ, hb1, hb2, hq11, hq12, hq13, n1, n2, n3, n4, n5, n6]⟩, rfl⟩
    ·
      have hx14 : ((decide (av_1.op = b_1.op)) && (decide (av_1.dst = b_1.dst))) = false := by simp only [SQ, hb1]
      rw [if_neg (by rw [hx14]; decide)] at kb1
      have hq14 := (Option.some.inj kb1).symm
      have hx15 : ((b1 && (decide (av_1.name = b_1.name))) && (decide (av_1.off = b_1.off))) = false := by simp only [SQ, hb1, hq14]
      rw [if_neg (by rw [hx15]; decide)] at kb2
      have hq15 := (Option.some.inj kb2).symm
      have hx16 : b2 = false := by simp only [SQ, hb1, hq14, hq15]
      rw [if_neg (by rw [hx16]; decide)] at kb3
      have hq16 := (Option.some.inj kb3).symm
      simp only [SQ, ty66, ty3, s2.b 1 rfl, sIns, s2.b 0 rfl, hb1, hq14, hq15, hq16, n1, n2, n3, n4, n5, n6]
      refine hold_intro ?_
      exact ⟨⟨rfl, rfl, by first | rfl | simp only [SQ, hb1, hq14, hq15, hq16, n1, n2, n3, n4, n5, n6]⟩, rfl⟩
  · rintro a1 _ ⟨f1, rfl⟩
    refine U_fi f1 ?_
    refine U_ret ?_
    replace h := Option.some.inj h
    subst h
    refine ⟨.bool b3, by simp only [ires, iress, Try.results48, SQ, List.toList_toArray, n1, n2, n3, n4, n5, n6], ?_⟩
    exact .cl (closed_bool _)

theorem w_dyehouseref12_In {fuel : Nat} {l_1 : List Int} {nv_1 : Int} {r0_ : Bool} (h : p_dyehouseref12_In fuel l_1 nv_1 = some r0_) : Pure1 Try.prog 23 [.sim (l_1.map eInt) false, .int .i64 nv_1] (.bool r0_) := by
  refine Pure1_S (all_cl (cl_map cl_eInt l_1) (all_cl (closed_int _ _) all_cl0)) fun F H s0 => ?_
  refine U_call 0 Try.func23 rfl (by kernel_rfl) (by simp [Try.ntmps23]) ?_
  rw [Try.ntmps23]
  refine U_fr 18 [(0, .sim (l_1.map eInt) false), (1, .int .i64 nv_1)] rfl rfl rfl ?_
  unfold p_dyehouseref12_In at h
  refine U_seq ?_
  refine U_reg ?_
  simp only [SQ, n1, n2, n3, n4, n5, n6]
  refine hold_intro ?_
  refine U_seq ?_
  refine U_seq ?_
  refine U_reg ?_
  simp only [SQ, n1, n2, n3, n4, n5, n6]
  refine hold_intro ?_
  refine U_fr 18 [(0, .sim (l_1.map eInt) false), (1, .int .i64 nv_1), (5, .int .i64 0)] rfl rfl rfl ?_
  obtain ⟨u1, he1, h⟩ := bndE h
  obtain ⟨hhi1, hlo1, he1⟩ := toE_facts he1
  refine U_cut (fun a' H' => u1 = .n () ∧ Fi a' 18 [] ∧ HS F [] H') (U_block (U_loop (fun z_ a' H' => match z_ with | i1 => forE ((l_1.length : Int) - i1).toNat i1 (fun i _ => p_dyehouseref12_In_b1 fuel l_1 nv_1 i) () = some u1 ∧ 0 ≤ i1 ∧ Fi a' 18 [(0, .sim (l_1.map eInt) false), (1, .int .i64 nv_1), (5, .int .i64 i1)] ∧ HS F [] H' : Int → Fr → Heap → Prop) (fun z_ : Int => ((l_1.length : Int) - z_).toNat) 0 ?_ ?_)) ?_
  · exact ⟨he1, Int.le_refl _, ⟨rfl, rfl, rfl⟩, s0⟩
  ·
    rintro i1 a1 H1 ⟨hf1, hl1, f1, s1⟩
    refine U_fi f1 ?_
    by_cases hlt1 : i1 < (l_1.length : Int)
    ·
      obtain ⟨u2, hr1, hl2⟩ := forE_step hf1 hlt1
      replace hr1 : p_dyehouseref12_In_b1 fuel l_1 nv_1 i1 = some u2 := hr1
      unfold p_dyehouseref12_In_b1 at hr1
      have hw1 := wrap_next hlt1 hhi1 hlo1 hl1
      have hlt1_t : decide (i1 < (l_1.length : Int)) = true := decide_eq_true hlt1
      refine U_seq (U_seq ?_)
      refine U_reg ?_
      simp only [SQ, len_sim ty37 rfl, hw1, hlt1_t, n1, n2, n3, n4, n5, n6]
      refine hold_intro ?_
      refine U_condT (by simp only [SQ, hw1, hlt1_t, n1, n2, n3, n4, n5, n6]) (U_skip ?_)
      refine U_seq ?_
      refine U_block ?_
      refine U_seq ?_
      obtain ⟨x1, kx1, hr1⟩ := bndO hr1
      refine U_reg ?_
      simp only [SQ, ty37, ty3, iia_sim (f := eInt) ty37 rfl ty3 kx1 rfl, row_sim (f := eInt) kx1, hw1, hlt1_t, n1, n2, n3, n4, n5, n6]
      refine hold_intro ?_
      rcases Bool.eq_false_or_eq_true (decide (x1 = nv_1)) with hb1 | hb1
      ·
        rw [if_pos hb1] at hr1
        refine U_condT (by simp only [SQ, hw1, hlt1_t, hb1, n1, n2, n3, n4, n5, n6]) ?_
        refine U_seq ?_
        refine U_reg ?_
        simp only [SQ, hw1, hlt1_t, hb1, n1, n2, n3, n4, n5, n6]
        refine hold_intro ?_
        refine U_ret ?_
        replace hr1 := Option.some.inj hr1
        subst hr1
        replace hl2 : u1 = .r _ := hl2
        subst hl2
        replace h := outE_r h
        replace h := Option.some.inj h
        subst h
        refine ⟨.bool true, by simp only [ires, iress, Try.results23, SQ, List.toList_toArray, hw1, hlt1_t, hb1, n1, n2, n3, n4, n5, n6], ?_⟩
        exact .cl (closed_bool _)
      ·
        rw [if_neg (by rw [hb1]; decide)] at hr1
        refine U_condF (by simp only [SQ, hw1, hlt1_t, hb1, n1, n2, n3, n4, n5, n6]) ?_
        refine U_skip ?_
        refine U_reg ?_
        simp only [SQ, hw1, hlt1_t, hb1, n1, n2, n3, n4, n5, n6]
        refine hold_intro ?_
        replace hr1 := Option.some.inj hr1
        subst hr1
        refine ⟨i1 + 1, ?_, hl2, Int.le_add_one hl1, ⟨rfl, rfl, by first | rfl | simp only [SQ, hw1, hlt1_t, hb1, n1, n2, n3, n4, n5, n6]⟩, s1⟩
        show ((l_1.length : Int) - (i1 + 1)).toNat < ((l_1.length : Int) - i1).toNat; omega
    ·
      have hlt1_e := forE_end hf1 hlt1
      have hlt1_t : decide (i1 < (l_1.length : Int)) = false := decide_eq_false hlt1
      refine U_seq (U_seq ?_)
      refine U_reg ?_
      simp only [SQ, len_sim ty37 rfl, hlt1_t, n1, n2, n3, n4, n5, n6]
      refine hold_intro ?_
      refine U_condF (by simp only [SQ, hlt1_t, n1, n2, n3, n4, n5, n6]) (U_exit rfl ?_)
      exact ⟨hlt1_e, ⟨rfl, rfl, by first | rfl | simp only [SQ, hlt1_t, n1, n2, n3, n4, n5, n6]⟩, s1⟩
  ·
    rintro a2 H2 ⟨rfl, f2, s2⟩
    replace h := outE_n h
    refine U_fi f2 ?_
    refine U_seq ?_
    refine U_reg ?_
    simp only [SQ, n1, n2, n3, n4, n5, n6]
    refine hold_intro ?_
    refine U_ret ?_
    replace h := Option.some.inj h
    subst h
    refine ⟨.bool false, by simp only [ires, iress, Try.results23, SQ, List.toList_toArray, n1, n2, n3, n4, n5, n6], ?_⟩
    exact .cl (closed_bool _)

theorem w_dyehouseref12_Uses {fuel : Nat} {x_1 : Ins} {r0_ : List Int} (h : p_dyehouseref12_Uses fuel x_1 = some r0_) : Pure1 Try.prog 51 [.agg (eIns x_1)] (.sim (r0_.map eInt) false) := by
  refine Pure1_S (all_cl (cl_agg (cl_eIns _)) all_cl0) fun F H s0 => ?_
  refine U_call 0 Try.func51 rfl (by kernel_rfl) (by simp [Try.ntmps51]) ?_
  rw [Try.ntmps51]
  refine U_fr 35 [(0, .agg (eIns x_1))] rfl rfl rfl ?_
  unfold p_dyehouseref12_Uses at h
  refine U_seq ?_
  refine U_reg ?_
  simp only [SQ, ty66, sIns, n1, n2, n3, n4, n5, n6]
  refine N_box s0 rfl fun d1 H1 s1 => ?_
  simp only [SQ, n1, n2, n3, n4, n5, n6]
  refine hold_intro ?_
  refine U_seq ?_
  refine U_reg ?_
  simp only [SQ, n1, n2, n3, n4, n5, n6]
  refine hold_intro ?_
  refine U_seq ?_
  refine U_seq ?_
  refine U_reg ?_
  simp only [SQ, n1, n2, n3, n4, n5, n6]
  refine hold_intro ?_
  refine U_fr 35 [(1, .pb d1 0 0), (3, .nils), (4, .int .i64 0)] rfl rfl rfl ?_
  obtain ⟨out_2, he1, h⟩ := bndO h
  obtain ⟨hhi1, hlo1, he1⟩ := toN_facts he1
  have s3 := s1.nil' R3i
  refine U_cut (fun a' H' => ∃ v1 : IV, Fi a' 35 [(3, v1)] ∧ HS F [pt d1 ⟨10, [eIns x_1]⟩, sl R3i v1 out_2] H') (U_block (U_loop (fun z_ a' H' => match z_ with | (i1, out_1) => forN ((x_1.args.length : Int) - i1).toNat i1 (fun i s => p_dyehouseref12_Uses_b1 fuel x_1 i s) out_1 = some out_2 ∧ 0 ≤ i1 ∧ ∃ v1 : IV, Fi a' 35 [(1, .pb d1 0 0), (3, v1), (4, .int .i64 i1)] ∧ HS F [pt d1 ⟨10, [eIns x_1]⟩, sl R3i v1 out_1] H' : (Int × (List Int)) → Fr → Heap → Prop) (fun z_ : Int × (List Int) => ((x_1.args.length : Int) - z_.1).toNat) (0, ([] : List Int)) ?_ ?_)) ?_
  · exact ⟨he1, Int.le_refl _, _, ⟨rfl, rfl, rfl⟩, s3.sel [1, 0] (by decide)⟩
  ·
    rintro ⟨i1, out_1⟩ a1 H2 ⟨hf1, hl1, v1, f1, s4⟩
    refine U_fi f1 ?_
    by_cases hlt1 : i1 < (x_1.args.length : Int)
    ·
      obtain ⟨u2, hr1, hl2⟩ := forN_step hf1 hlt1
      replace hr1 : p_dyehouseref12_Uses_b1 fuel x_1 i1 out_1 = some u2 := hr1
      unfold p_dyehouseref12_Uses_b1 at hr1
      have hw1 := wrap_next hlt1 hhi1 hlo1 hl1
      have hlt1_t : decide (i1 < (x_1.args.length : Int)) = true := decide_eq_true hlt1
      refine U_seq (U_seq ?_)
      refine U_reg ?_
      simp only [SQ, ty66, ty23, s4.b 0 rfl, sIns, len_sim ty23 rfl, hw1, hlt1_t, n1, n2, n3, n4, n5, n6]
      refine hold_intro ?_
      refine U_condT (by simp only [SQ, hw1, hlt1_t, n1, n2, n3, n4, n5, n6]) (U_skip ?_)
      refine U_seq ?_
      refine U_block ?_
      refine U_seq ?_
      obtain ⟨x1, kx1, hr1⟩ := bndO hr1
      obtain ⟨⟨r1, r2⟩, kr1, hr1⟩ := bndO hr1
      dsimp only at hr1
      refine U_reg ?_
      simp only [SQ, ty66, ty23, s4.b 0 rfl, sIns, ty58, iia_sim (f := eOpd) ty23 rfl ty58 kx1 rfl, row_sim (f := eOpd) kx1, sOpd, hw1, hlt1_t, n1, n2, n3, n4, n5, n6]
      refine callP (w_dyehouseref12_Value kr1) ?_
      simp only [SQ, hw1, hlt1_t, n1, n2, n3, n4, n5, n6]
      refine hold_intro ?_
      refine U_seq ?_
      refine U_fr 35 [(1, .pb d1 0 0), (3, v1), (4, .int .i64 i1), (5, .int .i64 r1), (6, .bool r2)] rfl rfl rfl ?_
      obtain ⟨b1, kb1, hr1⟩ := bndO hr1
      refine U_cut (fun a' H' => Fi a' 35 [(1, .pb d1 0 0), (3, v1), (4, .int .i64 i1), (5, .int .i64 r1), (29, .bool b1)] ∧ H2 = H') ?_ ?_
      · refine U_reg ?_
        rcases Bool.eq_false_or_eq_true (r2) with hb1 | hb1
        ·
          have hx1 := hb1
          rw [if_pos hx1] at kb1
          obtain ⟨r3, kr3, kb1⟩ := bndO kb1
          have hq1 := (Option.some.inj kb1).symm
          simp only [SQ, hw1, hlt1_t, hb1, hq1, n1, n2, n3, n4, n5, n6]
          refine callLd (w_dyehouseref12_In kr3) (.cons (s4.fzS 1 rfl) (.cons (.cl (closed_int _ _)) (.nil))) (flat_bool _) ?_
          simp only [SQ, hw1, hlt1_t, hb1, hq1, n1, n2, n3, n4, n5, n6]
          refine hold_intro ?_
          exact ⟨⟨rfl, rfl, by first | rfl | simp only [SQ, hw1, hlt1_t, hb1, hq1, n1, n2, n3, n4, n5, n6]⟩, rfl⟩
        ·
          have hx2 := hb1
          rw [if_neg (by rw [hx2]; decide)] at kb1
          have hq2 := (Option.some.inj kb1).symm
          simp only [SQ, hw1, hlt1_t, hb1, hq2, n1, n2, n3, n4, n5, n6]
          refine hold_intro ?_
          exact ⟨⟨rfl, rfl, by first | rfl | simp only [SQ, hw1, hlt1_t, hb1, hq2, n1, n2, n3, n4, n5, n6]⟩, rfl⟩
      · rintro a2 _ ⟨f2, rfl⟩
        refine U_fi f2 ?_
        rcases Bool.eq_false_or_eq_true (b1) with hb2 | hb2
        ·
          rw [if_pos hb2] at hr1
          refine U_condT (by simp only [SQ, hw1, hlt1_t, hb2, n1, n2, n3, n4, n5, n6]) ?_
          obtain ⟨l1, kl1, hr1⟩ := bndO hr1
          refine U_reg ?_
          simp only [SQ, ty37, ty3, hw1, hlt1_t, hb2, n1, n2, n3, n4, n5, n6]
          refine N_sl ([r1] : List Int) R3i s4 rfl rfl (by first | rfl | simp only [SQ]) (by first | rfl | simp only [List.length_map, List.length_replicate]) (zip_flat rfl) ?_
          intro v3 H4 s6
          simp only [SQ, ty37, ty3, hw1, hlt1_t, hb2, n1, n2, n3, n4, n5, n6]
          refine N_app (xs := out_1) (ys := ([r1] : List Int)) 2 s6 rfl rfl ty37 rfl ty37 rfl ty3 rfl rfl rfl (by decide) rfl (s6.srowsi 0 rfl) kl1 (fun _ _ e => by cases e) ?_
          intro v4 H5 s7
          simp only [SQ, hw1, hlt1_t, hb2, n1, n2, n3, n4, n5, n6]
          refine hold_intro ?_
          refine U_reg ?_
          simp only [SQ, hw1, hlt1_t, hb2, n1, n2, n3, n4, n5, n6]
          refine hold_intro ?_
          replace hr1 := Option.some.inj hr1
          subst hr1
          refine ⟨(i1 + 1, l1), ?_, hl2, Int.le_add_one hl1, _, ⟨rfl, rfl, by first | rfl | simp only [SQ, hw1, hlt1_t, hb2, n1, n2, n3, n4, n5, n6]⟩, s7.sel [2, 0] (by decide)⟩
          show ((x_1.args.length : Int) - (i1 + 1)).toNat < ((x_1.args.length : Int) - i1).toNat; omega
        ·
          rw [if_neg (by rw [hb2]; decide)] at hr1
          refine U_condF (by simp only [SQ, hw1, hlt1_t, hb2, n1, n2, n3, n4, n5, n6]) ?_
          refine U_skip ?_
          refine U_reg ?_
          simp only [SQ, hw1, hlt1_t, hb2, n1, n2, n3, n4, n5, n6]
          refine hold_intro ?_
          replace hr1 := Option.some.inj hr1
          subst hr1
          refine ⟨(i1 + 1, out_1), ?_, hl2, Int.le_add_one hl1, _, ⟨rfl, rfl, by first | rfl | simp only [SQ, hw1, hlt1_t, hb2, n1, n2, n3, n4, n5, n6]⟩, s4⟩
          show ((x_1.args.length : Int) - (i1 + 1)).toNat < ((x_1.args.length : Int) - i1).toNat; omega
    ·
      have hlt1_e := forN_end hf1 hlt1
      have hlt1_t : decide (i1 < (x_1.args.length : Int)) = false := decide_eq_false hlt1
      refine U_seq (U_seq ?_)
      refine U_reg ?_
      simp only [SQ, ty66, ty23, s4.b 0 rfl, sIns, len_sim ty23 rfl, hlt1_t, n1, n2, n3, n4, n5, n6]
      refine hold_intro ?_
      refine U_condF (by simp only [SQ, hlt1_t, n1, n2, n3, n4, n5, n6]) (U_exit rfl ?_)
      cases hlt1_e
      exact ⟨_, ⟨rfl, rfl, by first | rfl | simp only [SQ, hlt1_t, n1, n2, n3, n4, n5, n6]⟩, s4⟩
  ·
    rintro a3 H6 ⟨v2, f3, s8⟩
    refine U_fi f3 ?_
    refine U_seq ?_
    refine U_reg ?_
    simp only [SQ, n1, n2, n3, n4, n5, n6]
    refine hold_intro ?_
    refine U_ret ?_
    replace h := Option.some.inj h
    subst h
    refine ⟨v2, by simp only [ires, iress, Try.results51, SQ, List.toList_toArray, n1, n2, n3, n4, n5, n6], ?_⟩
    exact s8.fzS 1 rfl

theorem w_dyehouseref12_Find {fuel : Nat} {f_1 : Fnc} {label_1 : ByteArray} {r0_ : Int} (h : p_dyehouseref12_Find fuel f_1 label_1 = some r0_) : Pure1 Try.prog 53 [.agg (eFnc f_1), .str label_1] (.int .i64 r0_) := by
  refine Pure1_S (all_cl (cl_agg (cl_eFnc _)) (all_cl (closed_str _) all_cl0)) fun F H s0 => ?_
  refine U_call 0 Try.func53 rfl (by kernel_rfl) (by simp [Try.ntmps53]) ?_
  rw [Try.ntmps53]
  refine U_fr 22 [(0, .agg (eFnc f_1)), (1, .str label_1)] rfl rfl rfl ?_
  unfold p_dyehouseref12_Find at h
  refine U_seq ?_
  refine U_reg ?_
  simp only [SQ, ty26, sFnc, n1, n2, n3, n4, n5, n6]
  refine N_box s0 rfl fun d1 H1 s1 => ?_
  simp only [SQ, n1, n2, n3, n4, n5, n6]
  refine hold_intro ?_
  refine U_seq ?_
  refine U_seq ?_
  refine U_reg ?_
  simp only [SQ, n1, n2, n3, n4, n5, n6]
  refine hold_intro ?_
  refine U_fr 22 [(1, .str label_1), (2, .pb d1 0 0), (5, .int .i64 0)] rfl rfl rfl ?_
  obtain ⟨u1, he1, h⟩ := bndE h
  obtain ⟨hhi1, hlo1, he1⟩ := toE_facts he1
  refine U_cut (fun a' H' => u1 = .n () ∧ Fi a' 22 [] ∧ HS F [pt d1 ⟨5, [eFnc f_1]⟩] H') (U_block (U_loop (fun z_ a' H' => match z_ with | i1 => forE ((f_1.blocks.length : Int) - i1).toNat i1 (fun i _ => p_dyehouseref12_Find_b1 fuel f_1 label_1 i) () = some u1 ∧ 0 ≤ i1 ∧ Fi a' 22 [(1, .str label_1), (2, .pb d1 0 0), (5, .int .i64 i1)] ∧ HS F [pt d1 ⟨5, [eFnc f_1]⟩] H' : Int → Fr → Heap → Prop) (fun z_ : Int => ((f_1.blocks.length : Int) - z_).toNat) 0 ?_ ?_)) ?_
  · exact ⟨he1, Int.le_refl _, ⟨rfl, rfl, rfl⟩, s1⟩
  ·
    rintro i1 a1 H2 ⟨hf1, hl1, f1, s2⟩
    refine U_fi f1 ?_
    by_cases hlt1 : i1 < (f_1.blocks.length : Int)
    ·
      obtain ⟨u2, hr1, hl2⟩ := forE_step hf1 hlt1
      replace hr1 : p_dyehouseref12_Find_b1 fuel f_1 label_1 i1 = some u2 := hr1
      unfold p_dyehouseref12_Find_b1 at hr1
      have hw1 := wrap_next hlt1 hhi1 hlo1 hl1
      have hlt1_t : decide (i1 < (f_1.blocks.length : Int)) = true := decide_eq_true hlt1
      refine U_seq (U_seq ?_)
      refine U_reg ?_
      simp only [SQ, ty26, ty24, s2.b 0 rfl, sFnc, len_sim ty24 rfl, hw1, hlt1_t, n1, n2, n3, n4, n5, n6]
      refine hold_intro ?_
      refine U_condT (by simp only [SQ, hw1, hlt1_t, n1, n2, n3, n4, n5, n6]) (U_skip ?_)
      refine U_seq ?_
      refine U_block ?_
      refine U_seq ?_
      obtain ⟨x1, kx1, hr1⟩ := bndO hr1
      refine U_reg ?_
      simp only [SQ, ty26, ty24, s2.b 0 rfl, sFnc, ty63, iia_sim (f := eBl) ty24 rfl ty63 kx1 rfl, row_sim (f := eBl) kx1, sBl, ty9, hw1, hlt1_t, n1, n2, n3, n4, n5, n6]
      refine hold_intro ?_
      rcases Bool.eq_false_or_eq_true (decide (x1.label = label_1)) with hb1 | hb1
      ·
        rw [if_pos hb1] at hr1
        refine U_condT (by simp only [SQ, hw1, hlt1_t, hb1, n1, n2, n3, n4, n5, n6]) ?_
        refine U_seq ?_
        refine U_reg ?_
        simp only [SQ, hw1, hlt1_t, hb1, n1, n2, n3, n4, n5, n6]
        refine hold_intro ?_
        refine U_ret ?_
        replace hr1 := Option.some.inj hr1
        subst hr1
        replace hl2 : u1 = .r _ := hl2
        subst hl2
        replace h := outE_r h
        replace h := Option.some.inj h
        subst h
        refine ⟨.int .i64 i1, by simp only [ires, iress, Try.results53, SQ, List.toList_toArray, hw1, hlt1_t, hb1, n1, n2, n3, n4, n5, n6], ?_⟩
        exact .cl (closed_int _ _)
      ·
        rw [if_neg (by rw [hb1]; decide)] at hr1
        refine U_condF (by simp only [SQ, hw1, hlt1_t, hb1, n1, n2, n3, n4, n5, n6]) ?_
        refine U_skip ?_
        refine U_reg ?_
        simp only [SQ, hw1, hlt1_t, hb1, n1, n2, n3, n4, n5, n6]
        refine hold_intro ?_
        replace hr1 := Option.some.inj hr1
        subst hr1
        refine ⟨i1 + 1, ?_, hl2, Int.le_add_one hl1, ⟨rfl, rfl, by first | rfl | simp only [SQ, hw1, hlt1_t, hb1, n1, n2, n3, n4, n5, n6]⟩, s2⟩
        show ((f_1.blocks.length : Int) - (i1 + 1)).toNat < ((f_1.blocks.length : Int) - i1).toNat; omega
    ·
      have hlt1_e := forE_end hf1 hlt1
      have hlt1_t : decide (i1 < (f_1.blocks.length : Int)) = false := decide_eq_false hlt1
      refine U_seq (U_seq ?_)
      refine U_reg ?_
      simp only [SQ, ty26, ty24, s2.b 0 rfl, sFnc, len_sim ty24 rfl, hlt1_t, n1, n2, n3, n4, n5, n6]
      refine hold_intro ?_
      refine U_condF (by simp only [SQ, hlt1_t, n1, n2, n3, n4, n5, n6]) (U_exit rfl ?_)
      exact ⟨hlt1_e, ⟨rfl, rfl, by first | rfl | simp only [SQ, hlt1_t, n1, n2, n3, n4, n5, n6]⟩, s2⟩
  ·
    rintro a2 H3 ⟨rfl, f2, s3⟩
    replace h := outE_n h
    refine U_fi f2 ?_
    refine U_seq ?_
    refine U_reg ?_
    simp only [SQ, n1, n2, n3, n4, n5, n6]
    refine hold_intro ?_
    refine U_ret ?_
    replace h := Option.some.inj h
    subst h
    refine ⟨.int .i64 (-1), by simp only [ires, iress, Try.results53, SQ, List.toList_toArray, n1, n2, n3, n4, n5, n6], ?_⟩
    exact .cl (closed_int _ _)

theorem w_dyehouselaw12_IrAsks {fuel : Nat} {f_1 : Fnc} {v_1 : Int} {label_1 : ByteArray} {r0_ : Bool} (h : p_dyehouselaw12_IrAsks fuel f_1 v_1 label_1 = some r0_) : Pure1 Try.prog 8 [.agg (eFnc f_1), .int .i64 v_1, .str label_1] (.bool r0_) := by
  refine Pure1_S (all_cl (cl_agg (cl_eFnc _)) (all_cl (closed_int _ _) (all_cl (closed_str _) all_cl0))) fun F H s0 => ?_
  refine U_call 0 Try.func8 rfl (by kernel_rfl) (by simp [Try.ntmps8]) ?_
  rw [Try.ntmps8]
  refine U_fr 247 [(0, .agg (eFnc f_1)), (1, .int .i64 v_1), (2, .str label_1)] rfl rfl rfl ?_
  unfold p_dyehouselaw12_IrAsks at h
  refine U_seq ?_
  refine U_reg ?_
  simp only [SQ, ty26, sFnc, n1, n2, n3, n4, n5, n6]
  refine N_box s0 rfl fun d1 H1 s1 => ?_
  simp only [SQ, n1, n2, n3, n4, n5, n6]
  refine hold_intro ?_
  refine U_seq ?_
  refine U_seq ?_
  refine U_fr 247 [(1, .int .i64 v_1), (2, .str label_1), (3, .pb d1 0 0)] rfl rfl rfl ?_
  obtain ⟨r1, kr1, h⟩ := bndO h
  refine U_cut (fun a' H' => Fi a' 247 [(1, .int .i64 v_1), (2, .str label_1), (3, .pb d1 0 0), (34, .bool (r1 || (decide (100 < (label_1.size : Int)))))] ∧ H1 = H') ?_ ?_
  · refine U_reg ?_
    rcases Bool.eq_false_or_eq_true (r1) with hb1 | hb1
    ·
      simp only [SQ, ty26, s1.b 0 rfl, sFnc, hb1, n1, n2, n3, n4, n5, n6]
      refine callP (w_dyehouseref12_Large kr1) ?_
      simp only [SQ, hb1, n1, n2, n3, n4, n5, n6]
      refine hold_intro ?_
      exact ⟨⟨rfl, rfl, by first | rfl | simp only [SQ, hb1, n1, n2, n3, n4, n5, n6]⟩, rfl⟩
    ·
      simp only [SQ, ty26, s1.b 0 rfl, sFnc, hb1, n1, n2, n3, n4, n5, n6]
      refine callP (w_dyehouseref12_Large kr1) ?_
      simp only [SQ, len_str ty9 rfl, hb1, n1, n2, n3, n4, n5, n6]
      refine hold_intro ?_
      exact ⟨⟨rfl, rfl, by first | rfl | simp only [SQ, hb1, n1, n2, n3, n4, n5, n6]⟩, rfl⟩
  · rintro a1 _ ⟨f1, rfl⟩
    refine U_fi f1 ?_
    rcases Bool.eq_false_or_eq_true ((r1 || (decide (100 < (label_1.size : Int))))) with hb2 | hb2
    ·
      rw [if_pos hb2] at h
      refine U_condT (by simp only [SQ, hb2, n1, n2, n3, n4, n5, n6]) ?_
      refine U_seq ?_
      obtain ⟨r2, kr2, h⟩ := bndO h
      refine U_reg ?_
      simp only [SQ, hb2, n1, n2, n3, n4, n5, n6]
      refine callP (w_dyehouselaw12_works kr2) ?_
      simp only [SQ, hb2, n1, n2, n3, n4, n5, n6]
      refine hold_intro ?_
      refine U_ret ?_
      replace h := Option.some.inj h
      subst h
      refine ⟨.bool r2, by simp only [ires, iress, Try.results8, SQ, List.toList_toArray, hb2, n1, n2, n3, n4, n5, n6], ?_⟩
      exact .cl (closed_bool _)
    ·
      rw [if_neg (by rw [hb2]; decide)] at h
      refine U_condF (by simp only [SQ, hb2, n1, n2, n3, n4, n5, n6]) ?_
      refine U_skip ?_
      refine U_seq ?_
      obtain ⟨⟨r3, r4⟩, kr3, h⟩ := bndO h
      dsimp only at h
      refine U_reg ?_
      simp only [SQ, ty26, s1.b 0 rfl, sFnc, hb2, n1, n2, n3, n4, n5, n6]
      refine callP (w_ir_Class kr3) ?_
      simp only [SQ, hb2, n1, n2, n3, n4, n5, n6]
      refine hold_intro ?_
      refine U_seq ?_
      refine U_fr 247 [(1, .int .i64 v_1), (2, .str label_1), (3, .pb d1 0 0), (7, .int .i64 r3), (8, .bool r4)] rfl rfl rfl ?_
      obtain ⟨r5, kr5, h⟩ := bndO h
      refine U_reg ?_
      simp only [SQ, ty26, s1.b 0 rfl, sFnc, hb2, n1, n2, n3, n4, n5, n6]
      refine callP (w_dyehouseref12_Class kr5) ?_
      simp only [SQ, hb2, n1, n2, n3, n4, n5, n6]
      refine hold_intro ?_
      refine U_seq ?_
      refine U_reg ?_
      simp only [SQ, hb2, n1, n2, n3, n4, n5, n6]
      refine hold_intro ?_
      refine U_seq ?_
      obtain ⟨r6, kr6, h⟩ := bndO h
      refine U_reg ?_
      simp only [SQ, ty26, s1.b 0 rfl, sFnc, hb2, n1, n2, n3, n4, n5, n6]
      refine callP (w_ir_Calls kr6) ?_
      simp only [SQ, hb2, n1, n2, n3, n4, n5, n6]
      refine hold_intro ?_
      refine U_seq ?_
      refine U_seq ?_
      refine U_reg ?_
      simp only [SQ, hb2, n1, n2, n3, n4, n5, n6]
      refine hold_intro ?_
      refine U_fr 247 [(1, .int .i64 v_1), (2, .str label_1), (3, .pb d1 0 0), (7, .int .i64 r3), (8, .bool r4), (9, .int .i64 r5), (10, .int .i64 0), (11, .sim (r6.map eStr) false), (12, .int .i64 0)] rfl rfl rfl ?_
      obtain ⟨u1, he1, h⟩ := bndE h
      obtain ⟨hhi1, hlo1, he1⟩ := toE_facts he1
      refine U_cut (fun a' H' => ∃ nv_1 : Int, u1 = .n nv_1 ∧ Fi a' 247 [(1, .int .i64 v_1), (2, .str label_1), (3, .pb d1 0 0), (7, .int .i64 r3), (8, .bool r4), (9, .int .i64 r5), (10, .int .i64 nv_1), (11, .sim (r6.map eStr) false)] ∧ HS F [pt d1 ⟨5, [eFnc f_1]⟩] H') (U_block (U_loop (fun z_ a' H' => match z_ with | (i1, nv_1) => forE ((f_1.blocks.length : Int) - i1).toNat i1 (fun i s => p_dyehouselaw12_IrAsks_b1 fuel f_1 r6 i s) nv_1 = some u1 ∧ 0 ≤ i1 ∧ Fi a' 247 [(1, .int .i64 v_1), (2, .str label_1), (3, .pb d1 0 0), (7, .int .i64 r3), (8, .bool r4), (9, .int .i64 r5), (10, .int .i64 nv_1), (11, .sim (r6.map eStr) false), (12, .int .i64 i1)] ∧ HS F [pt d1 ⟨5, [eFnc f_1]⟩] H' : (Int × Int) → Fr → Heap → Prop) (fun z_ : Int × Int => ((f_1.blocks.length : Int) - z_.1).toNat) (0, 0) ?_ ?_)) ?_
      · exact ⟨he1, Int.le_refl _, ⟨rfl, rfl, by first | rfl | simp only [SQ, hb2, n1, n2, n3, n4, n5, n6]⟩, s1⟩
      ·
        rintro ⟨i1, nv_1⟩ a2 H3 ⟨hf1, hl1, f2, s3⟩
        refine U_fi f2 ?_
        by_cases hlt1 : i1 < (f_1.blocks.length : Int)
        ·
          obtain ⟨u2, hr1, hl2⟩ := forE_step hf1 hlt1
          replace hr1 : p_dyehouselaw12_IrAsks_b1 fuel f_1 r6 i1 nv_1 = some u2 := hr1
          unfold p_dyehouselaw12_IrAsks_b1 at hr1
          have hw1 := wrap_next hlt1 hhi1 hlo1 hl1
          have hlt1_t : decide (i1 < (f_1.blocks.length : Int)) = true := decide_eq_true hlt1
          refine U_seq (U_seq ?_)
          refine U_reg ?_
          simp only [SQ, ty26, ty24, s3.b 0 rfl, sFnc, len_sim ty24 rfl, hb2, hw1, hlt1_t, n1, n2, n3, n4, n5, n6]
          refine hold_intro ?_
          refine U_condT (by simp only [SQ, hb2, hw1, hlt1_t, n1, n2, n3, n4, n5, n6]) (U_skip ?_)
          refine U_seq ?_
          refine U_block ?_
          refine U_seq ?_
          refine U_reg ?_
          simp only [SQ, hb2, hw1, hlt1_t, n1, n2, n3, n4, n5, n6]
          refine hold_intro ?_
          refine U_fr 247 [(1, .int .i64 v_1), (2, .str label_1), (3, .pb d1 0 0), (7, .int .i64 r3), (8, .bool r4), (9, .int .i64 r5), (10, .int .i64 nv_1), (11, .sim (r6.map eStr) false), (12, .int .i64 i1), (13, .int .i64 0)] rfl rfl rfl ?_
          obtain ⟨x1, kx1, hr1⟩ := bndO hr1
          obtain ⟨u3, he2, hr1⟩ := bndE hr1
          obtain ⟨hhi2, hlo2, he2⟩ := toE_facts he2
          refine U_cut (fun a' H' => ∃ nv_3 : Int, u3 = .n nv_3 ∧ Fi a' 247 [(1, .int .i64 v_1), (2, .str label_1), (3, .pb d1 0 0), (7, .int .i64 r3), (8, .bool r4), (9, .int .i64 r5), (10, .int .i64 nv_3), (11, .sim (r6.map eStr) false), (12, .int .i64 i1)] ∧ HS F [pt d1 ⟨5, [eFnc f_1]⟩] H') (U_block (U_loop (fun z_ a' H' => match z_ with | (i2, nv_3) => forE ((x1.code.length : Int) - i2).toNat i2 (fun i s => p_dyehouselaw12_IrAsks_b2 fuel r6 x1 i s) nv_3 = some u3 ∧ 0 ≤ i2 ∧ Fi a' 247 [(1, .int .i64 v_1), (2, .str label_1), (3, .pb d1 0 0), (7, .int .i64 r3), (8, .bool r4), (9, .int .i64 r5), (10, .int .i64 nv_3), (11, .sim (r6.map eStr) false), (12, .int .i64 i1), (13, .int .i64 i2)] ∧ HS F [pt d1 ⟨5, [eFnc f_1]⟩] H' : (Int × Int) → Fr → Heap → Prop) (fun z_ : Int × Int => ((x1.code.length : Int) - z_.1).toNat) (0, nv_1) ?_ ?_)) ?_
          · exact ⟨he2, Int.le_refl _, ⟨rfl, rfl, by first | rfl | simp only [SQ, hb2, hw1, hlt1_t, n1, n2, n3, n4, n5, n6]⟩, s3⟩
          ·
            rintro ⟨i2, nv_3⟩ a3 H4 ⟨hf2, hl3, f3, s4⟩
            refine U_fi f3 ?_
            by_cases hlt2 : i2 < (x1.code.length : Int)
            ·
              obtain ⟨u4, hr2, hl4⟩ := forE_step hf2 hlt2
              replace hr2 : p_dyehouselaw12_IrAsks_b2 fuel r6 x1 i2 nv_3 = some u4 := hr2
              unfold p_dyehouselaw12_IrAsks_b2 at hr2
              have hw2 := wrap_next hlt2 hhi2 hlo2 hl3
              have hlt2_t : decide (i2 < (x1.code.length : Int)) = true := decide_eq_true hlt2
              refine U_seq (U_seq ?_)
              refine U_reg ?_
              simp only [SQ, ty26, ty24, s4.b 0 rfl, sFnc, ty63, iia_sim (f := eBl) ty24 rfl ty63 kx1 rfl, row_sim (f := eBl) kx1, sBl, ty61, len_sim ty61 rfl, hb2, hw1, hlt1_t, hw2, hlt2_t, n1, n2, n3, n4, n5, n6]
              refine hold_intro ?_
              refine U_condT (by simp only [SQ, hb2, hw1, hlt1_t, hw2, hlt2_t, n1, n2, n3, n4, n5, n6]) (U_skip ?_)
              refine U_seq ?_
              refine U_block ?_
              refine U_seq ?_
              obtain ⟨x2, kx2, hr2⟩ := bndO hr2
              refine U_reg ?_
              simp only [SQ, ty26, ty24, s4.b 0 rfl, sFnc, ty63, iia_sim (f := eBl) ty24 rfl ty63 kx1 rfl, row_sim (f := eBl) kx1, sBl, ty61, ty66, iia_sim (f := eIns) ty61 rfl ty66 kx2 rfl, row_sim (f := eIns) kx2, sIns, hb2, hw1, hlt1_t, hw2, hlt2_t, n1, n2, n3, n4, n5, n6]
              refine N_box s4 rfl fun d2 H5 s5 => ?_
              simp only [SQ, ty66, sIns, splice_all', s5.b 0 rfl, hb2, hw1, hlt1_t, hw2, hlt2_t, n1, n2, n3, n4, n5, n6]
              refine N_put 0 s5 rfl fun H6 s6 => ?_
              simp only [SQ, hb2, hw1, hlt1_t, hw2, hlt2_t, n1, n2, n3, n4, n5, n6]
              refine hold_intro ?_
              refine U_seq ?_
              refine U_fr 247 [(1, .int .i64 v_1), (2, .str label_1), (3, .pb d1 0 0), (7, .int .i64 r3), (8, .bool r4), (9, .int .i64 r5), (10, .int .i64 nv_3), (11, .sim (r6.map eStr) false), (12, .int .i64 i1), (13, .int .i64 i2), (14, .pb d2 0 0)] rfl rfl rfl ?_
              refine U_reg ?_
              simp only [SQ, hb2, hw1, hlt1_t, hw2, hlt2_t, n1, n2, n3, n4, n5, n6]
              refine hold_intro ?_
              refine U_seq ?_
              obtain ⟨r7, kr7, hr2⟩ := bndO hr2
              refine U_reg ?_
              simp only [SQ, ty66, s6.b 0 rfl, sIns, hb2, hw1, hlt1_t, hw2, hlt2_t, n1, n2, n3, n4, n5, n6]
              refine callP (w_ir_MapInstr_at_dyehouselaw12_IrAsks_1 kr7) ?_
              simp only [SQ, ty66, hb2, hw1, hlt1_t, hw2, hlt2_t, n1, n2, n3, n4, n5, n6]
              refine N_box s6 rfl fun d3 H7 s7 => ?_
              simp only [SQ, ty66, sIns, splice_all', s7.b 0 rfl, hb2, hw1, hlt1_t, hw2, hlt2_t, n1, n2, n3, n4, n5, n6]
              refine N_put 0 s7 rfl fun H8 s8 => ?_
              simp only [SQ, hb2, hw1, hlt1_t, hw2, hlt2_t, n1, n2, n3, n4, n5, n6]
              refine hold_intro ?_
              refine U_seq ?_
              obtain ⟨r8, kr8, hr2⟩ := bndO hr2
              refine U_reg ?_
              simp only [SQ, ty66, s8.b 0 rfl, sIns, hb2, hw1, hlt1_t, hw2, hlt2_t, n1, n2, n3, n4, n5, n6]
              refine callP (w_ir_MapInstr_at_dyehouselaw12_IrAsks_2 kr8) ?_
              simp only [SQ, ty66, hb2, hw1, hlt1_t, hw2, hlt2_t, n1, n2, n3, n4, n5, n6]
              refine N_box s8 rfl fun d4 H9 s9 => ?_
              simp only [SQ, ty66, sIns, splice_all', s9.b 0 rfl, hb2, hw1, hlt1_t, hw2, hlt2_t, n1, n2, n3, n4, n5, n6]
              refine N_put 0 s9 rfl fun H10 s10 => ?_
              simp only [SQ, hb2, hw1, hlt1_t, hw2, hlt2_t, n1, n2, n3, n4, n5, n6]
              refine hold_intro ?_
              refine U_seq ?_
              obtain ⟨⟨r9, r10⟩, kr9, hr2⟩ := bndO hr2
              dsimp only at hr2
              refine U_reg ?_
              simp only [SQ, ty66, ty58, s10.b 2 rfl, sIns, hb2, hw1, hlt1_t, hw2, hlt2_t, n1, n2, n3, n4, n5, n6]
              refine callP (w_ir_Value kr9) ?_
              simp only [SQ, hb2, hw1, hlt1_t, hw2, hlt2_t, n1, n2, n3, n4, n5, n6]
              refine hold_intro ?_
              refine U_seq ?_
              refine U_fr 247 [(1, .int .i64 v_1), (2, .str label_1), (3, .pb d1 0 0), (7, .int .i64 r3), (8, .bool r4), (9, .int .i64 r5), (10, .int .i64 (IntKind.wrap .i64 (nv_3 + 1))), (11, .sim (r6.map eStr) false), (12, .int .i64 i1), (13, .int .i64 i2), (14, .pb d2 0 0), (15, .pb d3 0 0), (16, .pb d4 0 0), (17, .int .i64 r9), (18, .bool r10)] rfl rfl rfl ?_
              obtain ⟨⟨r11, r12⟩, kr11, hr2⟩ := bndO hr2
              dsimp only at hr2
              refine U_reg ?_
              simp only [SQ, ty66, ty58, s10.b 2 rfl, sIns, hb2, hw1, hlt1_t, hw2, hlt2_t, n1, n2, n3, n4, n5, n6]
              refine callP (w_dyehouseref12_Value kr11) ?_
              simp only [SQ, hb2, hw1, hlt1_t, hw2, hlt2_t, n1, n2, n3, n4, n5, n6]
              refine hold_intro ?_
              refine U_seq ?_
              refine U_seq ?_
              refine U_fr 247 [(1, .int .i64 v_1), (2, .str label_1), (3, .pb d1 0 0), (7, .int .i64 r3), (8, .bool r4), (9, .int .i64 r5), (10, .int .i64 (IntKind.wrap .i64 (nv_3 + 1))), (11, .sim (r6.map eStr) false), (12, .int .i64 i1), (13, .int .i64 i2), (14, .pb d2 0 0), (15, .pb d3 0 0), (16, .pb d4 0 0), (17, .int .i64 r9), (18, .bool r10), (19, .int .i64 r11), (20, .bool r12)] rfl rfl rfl ?_
              obtain ⟨r13, kr13, hr2⟩ := bndO hr2
              refine U_cut (fun a' H' => Fi a' 247 [(1, .int .i64 v_1), (2, .str label_1), (3, .pb d1 0 0), (7, .int .i64 r3), (8, .bool r4), (9, .int .i64 r5), (10, .int .i64 (IntKind.wrap .i64 (nv_3 + 1))), (11, .sim (r6.map eStr) false), (12, .int .i64 i1), (13, .int .i64 i2), (14, .pb d2 0 0), (17, .int .i64 r9), (18, .bool r10), (125, .bool (((((!r13) || (decide (r7.dst.n ≠ x2.dst.tag))) || (r10 != r12)) || (r10 && (decide (r9 ≠ r11)))) || ((!r10) && (decide (r9 ≠ 0)))))] ∧ H10 = H') ?_ ?_
              · refine U_reg ?_
                rcases Bool.eq_false_or_eq_true (r13) with hb3 | hb3
                ·
                  rcases Bool.eq_false_or_eq_true (decide (r7.dst.n ≠ x2.dst.tag)) with hb4 | hb4
                  ·
                    simp only [SQ, ty66, s10.b 2 rfl, sIns, s10.b 0 rfl, hb2, hw1, hlt1_t, hw2, hlt2_t, hb3, Bool.true_beq, Bool.false_beq, Bool.true_bne, Bool.false_bne, Bool.not_true, Bool.not_false, hb4, n1, n2, n3, n4, n5, n6]
                    refine callP (w_dyehouseref12_Instr kr13) ?_
                    simp only [SQ, ty66, ty58, ty3, s10.b 1 rfl, sIns, s10.b 2 rfl, hb2, hw1, hlt1_t, hw2, hlt2_t, hb3, Bool.true_beq, Bool.false_beq, Bool.true_bne, Bool.false_bne, Bool.not_true, Bool.not_false, hb4, n1, n2, n3, n4, n5, n6]
                    refine hold_intro ?_
                    exact ⟨⟨rfl, rfl, by first | rfl | simp only [SQ, hb2, hw1, hlt1_t, hw2, hlt2_t, hb3, Bool.true_beq, Bool.false_beq, Bool.true_bne, Bool.false_bne, Bool.not_true, Bool.not_false, hb4, n1, n2, n3, n4, n5, n6]⟩, rfl⟩
                  ·
                    rcases Bool.eq_false_or_eq_true (r10) with hb5 | hb5
                    ·
                      rcases Bool.eq_false_or_eq_true (r12) with hb6 | hb6
                      ·
                        rcases Bool.eq_false_or_eq_true (decide (r9 ≠ r11)) with hb7 | hb7
                        ·
                          simp only [SQ, ty66, s10.b 2 rfl, sIns, s10.b 0 rfl, hb2, hw1, hlt1_t, hw2, hlt2_t, hb3, Bool.true_beq, Bool.false_beq, Bool.true_bne, Bool.false_bne, Bool.not_true, Bool.not_false, hb4, hb5, hb6, hb7, n1, n2, n3, n4, n5, n6]
                          refine callP (w_dyehouseref12_Instr kr13) ?_
                          simp only [SQ, ty66, ty58, ty3, s10.b 1 rfl, sIns, s10.b 2 rfl, bin_bool (P := Try.prog) ty4 rfl, hb2, hw1, hlt1_t, hw2, hlt2_t, hb3, Bool.true_beq, Bool.false_beq, Bool.true_bne, Bool.false_bne, Bool.not_true, Bool.not_false, hb4, hb5, hb6, hb7, n1, n2, n3, n4, n5, n6]
                          refine hold_intro ?_
                          exact ⟨⟨rfl, rfl, by first | rfl | simp only [SQ, hb2, hw1, hlt1_t, hw2, hlt2_t, hb3, Bool.true_beq, Bool.false_beq, Bool.true_bne, Bool.false_bne, Bool.not_true, Bool.not_false, hb4, hb5, hb6, hb7, n1, n2, n3, n4, n5, n6]⟩, rfl⟩
                        ·
                          simp only [SQ, ty66, s10.b 2 rfl, sIns, s10.b 0 rfl, hb2, hw1, hlt1_t, hw2, hlt2_t, hb3, Bool.true_beq, Bool.false_beq, Bool.true_bne, Bool.false_bne, Bool.not_true, Bool.not_false, hb4, hb5, hb6, hb7, n1, n2, n3, n4, n5, n6]
                          refine callP (w_dyehouseref12_Instr kr13) ?_
                          simp only [SQ, ty66, ty58, ty3, s10.b 1 rfl, sIns, s10.b 2 rfl, bin_bool (P := Try.prog) ty4 rfl, hb2, hw1, hlt1_t, hw2, hlt2_t, hb3, Bool.true_beq, Bool.false_beq, Bool.true_bne, Bool.false_bne, Bool.not_true, Bool.not_false, hb4, hb5, hb6, hb7, n1, n2, n3, n4, n5, n6]
                          refine hold_intro ?_
                          exact ⟨⟨rfl, rfl, by first | rfl | simp only [SQ, hb2, hw1, hlt1_t, hw2, hlt2_t, hb3, Bool.true_beq, Bool.false_beq, Bool.true_bne, Bool.false_bne, Bool.not_true, Bool.not_false, hb4, hb5, hb6, hb7, n1, n2, n3, n4, n5, n6]⟩, rfl⟩
                      ·
                        simp only [SQ, ty66, s10.b 2 rfl, sIns, s10.b 0 rfl, hb2, hw1, hlt1_t, hw2, hlt2_t, hb3, Bool.true_beq, Bool.false_beq, Bool.true_bne, Bool.false_bne, Bool.not_true, Bool.not_false, hb4, hb5, hb6, n1, n2, n3, n4, n5, n6]
                        refine callP (w_dyehouseref12_Instr kr13) ?_
                        simp only [SQ, ty66, ty58, ty3, s10.b 1 rfl, sIns, s10.b 2 rfl, bin_bool (P := Try.prog) ty4 rfl, hb2, hw1, hlt1_t, hw2, hlt2_t, hb3, Bool.true_beq, Bool.false_beq, Bool.true_bne, Bool.false_bne, Bool.not_true, Bool.not_false, hb4, hb5, hb6, n1, n2, n3, n4, n5, n6]
                        refine hold_intro ?_
                        exact ⟨⟨rfl, rfl, by first | rfl | simp only [SQ, hb2, hw1, hlt1_t, hw2, hlt2_t, hb3, Bool.true_beq, Bool.false_beq, Bool.true_bne, Bool.false_bne, Bool.not_true, Bool.not_false, hb4, hb5, hb6, n1, n2, n3, n4, n5, n6]⟩, rfl⟩
                    ·
                      rcases Bool.eq_false_or_eq_true (r12) with hb8 | hb8
                      ·
                        simp only [SQ, ty66, s10.b 2 rfl, sIns, s10.b 0 rfl, hb2, hw1, hlt1_t, hw2, hlt2_t, hb3, Bool.true_beq, Bool.false_beq, Bool.true_bne, Bool.false_bne, Bool.not_true, Bool.not_false, hb4, hb5, hb8, n1, n2, n3, n4, n5, n6]
                        refine callP (w_dyehouseref12_Instr kr13) ?_
                        simp only [SQ, ty66, ty58, ty3, s10.b 1 rfl, sIns, s10.b 2 rfl, bin_bool (P := Try.prog) ty4 rfl, hb2, hw1, hlt1_t, hw2, hlt2_t, hb3, Bool.true_beq, Bool.false_beq, Bool.true_bne, Bool.false_bne, Bool.not_true, Bool.not_false, hb4, hb5, hb8, n1, n2, n3, n4, n5, n6]
                        refine hold_intro ?_
                        exact ⟨⟨rfl, rfl, by first | rfl | simp only [SQ, hb2, hw1, hlt1_t, hw2, hlt2_t, hb3, Bool.true_beq, Bool.false_beq, Bool.true_bne, Bool.false_bne, Bool.not_true, Bool.not_false, hb4, hb5, hb8, n1, n2, n3, n4, n5, n6]⟩, rfl⟩
                      ·
                        simp only [SQ, ty66, s10.b 2 rfl, sIns, s10.b 0 rfl, hb2, hw1, hlt1_t, hw2, hlt2_t, hb3, Bool.true_beq, Bool.false_beq, Bool.true_bne, Bool.false_bne, Bool.not_true, Bool.not_false, hb4, hb5, hb8, n1, n2, n3, n4, n5, n6]
                        refine callP (w_dyehouseref12_Instr kr13) ?_
                        simp only [SQ, ty66, ty58, ty3, s10.b 1 rfl, sIns, s10.b 2 rfl, bin_bool (P := Try.prog) ty4 rfl, hb2, hw1, hlt1_t, hw2, hlt2_t, hb3, Bool.true_beq, Bool.false_beq, Bool.true_bne, Bool.false_bne, Bool.not_true, Bool.not_false, hb4, hb5, hb8, n1, n2, n3, n4, n5, n6]
                        refine hold_intro ?_
                        exact ⟨⟨rfl, rfl, by first | rfl | simp only [SQ, hb2, hw1, hlt1_t, hw2, hlt2_t, hb3, Bool.true_beq, Bool.false_beq, Bool.true_bne, Bool.false_bne, Bool.not_true, Bool.not_false, hb4, hb5, hb8, n1, n2, n3, n4, n5, n6]⟩, rfl⟩
                ·
                  simp only [SQ, ty66, s10.b 2 rfl, sIns, s10.b 0 rfl, hb2, hw1, hlt1_t, hw2, hlt2_t, hb3, Bool.true_beq, Bool.false_beq, Bool.true_bne, Bool.false_bne, Bool.not_true, Bool.not_false, n1, n2, n3, n4, n5, n6]
                  refine callP (w_dyehouseref12_Instr kr13) ?_
                  simp only [SQ, hb2, hw1, hlt1_t, hw2, hlt2_t, hb3, Bool.true_beq, Bool.false_beq, Bool.true_bne, Bool.false_bne, Bool.not_true, Bool.not_false, n1, n2, n3, n4, n5, n6]
                  refine hold_intro ?_
                  exact ⟨⟨rfl, rfl, by first | rfl | simp only [SQ, hb2, hw1, hlt1_t, hw2, hlt2_t, hb3, Bool.true_beq, Bool.false_beq, Bool.true_bne, Bool.false_bne, Bool.not_true, Bool.not_false, n1, n2, n3, n4, n5, n6]⟩, rfl⟩
              · rintro a4 _ ⟨f4, rfl⟩
                refine U_fi f4 ?_
                rcases Bool.eq_false_or_eq_true ((((((!r13) || (decide (r7.dst.n ≠ x2.dst.tag))) || (r10 != r12)) || (r10 && (decide (r9 ≠ r11)))) || ((!r10) && (decide (r9 ≠ 0))))) with hb9 | hb9
                ·
                  rw [if_pos hb9] at hr2
                  refine U_condT (by simp only [SQ, hb2, hw1, hlt1_t, hw2, hlt2_t, hb9, n1, n2, n3, n4, n5, n6]) ?_
                  refine U_seq ?_
                  refine U_fr 247 [] rfl rfl rfl ?_
                  refine U_reg ?_
                  simp only [SQ, hb2, hw1, hlt1_t, hw2, hlt2_t, hb9, n1, n2, n3, n4, n5, n6]
                  refine hold_intro ?_
                  refine U_ret ?_
                  replace hr2 := Option.some.inj hr2
                  subst hr2
                  replace hl4 : u3 = .r _ := hl4
                  subst hl4
                  replace hr1 := outE_r hr1
                  replace hr1 := Option.some.inj hr1
                  subst hr1
                  replace hl2 : u1 = .r _ := hl2
                  subst hl2
                  replace h := outE_r h
                  replace h := Option.some.inj h
                  subst h
                  refine ⟨.bool false, by simp only [ires, iress, Try.results8, SQ, List.toList_toArray, hb2, hw1, hlt1_t, hw2, hlt2_t, hb9, n1, n2, n3, n4, n5, n6], ?_⟩
                  exact .cl (closed_bool _)
                ·
                  rw [if_neg (by rw [hb9]; decide)] at hr2
                  refine U_condF (by simp only [SQ, hb2, hw1, hlt1_t, hw2, hlt2_t, hb9, n1, n2, n3, n4, n5, n6]) ?_
                  refine U_skip ?_
                  refine U_seq ?_
                  obtain ⟨⟨r14, r15⟩, kr14, hr2⟩ := bndO hr2
                  dsimp only at hr2
                  refine U_reg ?_
                  simp only [SQ, ty66, s10.b 2 rfl, sIns, hb2, hw1, hlt1_t, hw2, hlt2_t, hb9, n1, n2, n3, n4, n5, n6]
                  refine callP (w_ir_Def kr14) ?_
                  simp only [SQ, hb2, hw1, hlt1_t, hw2, hlt2_t, hb9, n1, n2, n3, n4, n5, n6]
                  refine hold_intro ?_
                  refine U_seq ?_
                  refine U_seq ?_
                  refine U_fr 247 [(1, .int .i64 v_1), (2, .str label_1), (3, .pb d1 0 0), (7, .int .i64 r3), (8, .bool r4), (9, .int .i64 r5), (10, .int .i64 (IntKind.wrap .i64 (nv_3 + 1))), (11, .sim (r6.map eStr) false), (12, .int .i64 i1), (13, .int .i64 i2), (14, .pb d2 0 0), (17, .int .i64 r9), (18, .bool r10), (21, .int .i64 r14), (22, .bool r15)] rfl rfl rfl ?_
                  obtain ⟨b1, kb1, hr2⟩ := bndO hr2
                  refine U_cut (fun a' H' => Fi a' 247 [(1, .int .i64 v_1), (2, .str label_1), (3, .pb d1 0 0), (7, .int .i64 r3), (8, .bool r4), (9, .int .i64 r5), (10, .int .i64 (IntKind.wrap .i64 (nv_3 + 1))), (11, .sim (r6.map eStr) false), (12, .int .i64 i1), (13, .int .i64 i2), (14, .pb d2 0 0), (146, .bool b1)] ∧ H10 = H') ?_ ?_
                  · refine U_drawQ hm [0, 0, 3, 7, 15, 15, 63, 127, 255, 511, 1023, 511, 4095, 8191, 16383, 32767] false 12 (by decide +kernel) (by decide) ?_
                    rcases Bool.eq_false_or_eq_true (decide (r14 ≠ r9)) with hb10 | hb10
                    ·
                      have hx1 : ((decide (r14 ≠ r9)) || (r15 != r10)) = true := by simp only [SQ, hb10]
                      rw [if_pos hx1] at kb1
                      have hq1 := (Option.some.inj kb1).symm
                      simp only [SQ, hb2, hw1, hlt1_t, hw2, hlt2_t, hb9, hb10, hq1, n1, n2, n3, n4, n5, n6]
                      refine hold_intro ?_
                      exact ⟨⟨rfl, rfl, by first | rfl | simp only [SQ, hb2, hw1, hlt1_t, hw2, hlt2_t, hb9, hb10, hq1, n1, n2, n3, n4, n5, n6]⟩, rfl⟩
                    ·
                      rcases Bool.eq_false_or_eq_true (r15) with hb11 | hb11
                      ·
                        rcases Bool.eq_false_or_eq_true (r10) with hb12 | hb12
                        ·
                          have hx2 : ((decide (r14 ≠ r9)) || (r15 != r10)) = false := by simp only [SQ, hb10, hb11, Bool.true_beq, Bool.false_beq, Bool.true_bne, Bool.false_bne, Bool.not_true, Bool.not_false, hb12, Bool.true_beq, Bool.false_beq, Bool.true_bne, Bool.false_bne, Bool.not_true, Bool.not_false]
                          rw [if_neg (by rw [hx2]; decide)] at kb1
                          obtain ⟨r16, kr16, kb1⟩ := bndO kb1
                          obtain ⟨r17, kr17, kb1⟩ := bndO kb1
                          obtain ⟨r18, kr18, kb1⟩ := bndO kb1
                          have hq2 := (Option.some.inj kb1).symm
                          simp only [SQ, bin_bool (P := Try.prog) ty4 rfl, ty66, s10.b 2 rfl, sIns, hb2, hw1, hlt1_t, hw2, hlt2_t, hb9, hb10, hb11, Bool.true_beq, Bool.false_beq, Bool.true_bne, Bool.false_bne, Bool.not_true, Bool.not_false, hb12, hq2, n1, n2, n3, n4, n5, n6]
                          refine callP (w_ir_Uses kr16) ?_
                          simp only [SQ, ty66, s10.b 2 rfl, sIns, hb2, hw1, hlt1_t, hw2, hlt2_t, hb9, hb10, hb11, Bool.true_beq, Bool.false_beq, Bool.true_bne, Bool.false_bne, Bool.not_true, Bool.not_false, hb12, hq2, n1, n2, n3, n4, n5, n6]
                          refine callP (w_dyehouseref12_Uses kr17) ?_
                          simp only [SQ, hb2, hw1, hlt1_t, hw2, hlt2_t, hb9, hb10, hb11, Bool.true_beq, Bool.false_beq, Bool.true_bne, Bool.false_bne, Bool.not_true, Bool.not_false, hb12, hq2, n1, n2, n3, n4, n5, n6]
                          refine callP (w_dyehouseref12_Ints kr18) ?_
                          simp only [SQ, hb2, hw1, hlt1_t, hw2, hlt2_t, hb9, hb10, hb11, Bool.true_beq, Bool.false_beq, Bool.true_bne, Bool.false_bne, Bool.not_true, Bool.not_false, hb12, hq2, n1, n2, n3, n4, n5, n6]
                          refine hold_intro ?_
                          exact ⟨⟨rfl, rfl, by first | rfl | simp only [SQ, hb2, hw1, hlt1_t, hw2, hlt2_t, hb9, hb10, hb11, Bool.true_beq, Bool.false_beq, Bool.true_bne, Bool.false_bne, Bool.not_true, Bool.not_false, hb12, hq2, n1, n2, n3, n4, n5, n6]⟩, rfl⟩
                        ·
                          have hx3 : ((decide (r14 ≠ r9)) || (r15 != r10)) = true := by simp only [SQ, hb10, hb11, Bool.true_beq, Bool.false_beq, Bool.true_bne, Bool.false_bne, Bool.not_true, Bool.not_false, hb12, Bool.true_beq, Bool.false_beq, Bool.true_bne, Bool.false_bne, Bool.not_true, Bool.not_false]
                          rw [if_pos hx3] at kb1
                          have hq3 := (Option.some.inj kb1).symm
                          simp only [SQ, bin_bool (P := Try.prog) ty4 rfl, hb2, hw1, hlt1_t, hw2, hlt2_t, hb9, hb10, hb11, Bool.true_beq, Bool.false_beq, Bool.true_bne, Bool.false_bne, Bool.not_true, Bool.not_false, hb12, hq3, n1, n2, n3, n4, n5, n6]
                          refine hold_intro ?_
                          exact ⟨⟨rfl, rfl, by first | rfl | simp only [SQ, hb2, hw1, hlt1_t, hw2, hlt2_t, hb9, hb10, hb11, Bool.true_beq, Bool.false_beq, Bool.true_bne, Bool.false_bne, Bool.not_true, Bool.not_false, hb12, hq3, n1, n2, n3, n4, n5, n6]⟩, rfl⟩
                      ·
                        rcases Bool.eq_false_or_eq_true (r10) with hb13 | hb13
                        ·
                          have hx4 : ((decide (r14 ≠ r9)) || (r15 != r10)) = true := by simp only [SQ, hb10, hb11, Bool.true_beq, Bool.false_beq, Bool.true_bne, Bool.false_bne, Bool.not_true, Bool.not_false, hb13, Bool.true_beq, Bool.false_beq, Bool.true_bne, Bool.false_bne, Bool.not_true, Bool.not_false]
                          rw [if_pos hx4] at kb1
                          have hq4 := (Option.some.inj kb1).symm
                          simp only [SQ, bin_bool (P := Try.prog) ty4 rfl, hb2, hw1, hlt1_t, hw2, hlt2_t, hb9, hb10, hb11, Bool.true_beq, Bool.false_beq, Bool.true_bne, Bool.false_bne, Bool.not_true, Bool.not_false, hb13, hq4, n1, n2, n3, n4, n5, n6]
                          refine hold_intro ?_
                          exact ⟨⟨rfl, rfl, by first | rfl | simp only [SQ, hb2, hw1, hlt1_t, hw2, hlt2_t, hb9, hb10, hb11, Bool.true_beq, Bool.false_beq, Bool.true_bne, Bool.false_bne, Bool.not_true, Bool.not_false, hb13, hq4, n1, n2, n3, n4, n5, n6]⟩, rfl⟩
                        ·
                          have hx5 : ((decide (r14 ≠ r9)) || (r15 != r10)) = false := by simp only [SQ, hb10, hb11, Bool.true_beq, Bool.false_beq, Bool.true_bne, Bool.false_bne, Bool.not_true, Bool.not_false, hb13, Bool.true_beq, Bool.false_beq, Bool.true_bne, Bool.false_bne, Bool.not_true, Bool.not_false]
                          rw [if_neg (by rw [hx5]; decide)] at kb1
                          obtain ⟨r16, kr16, kb1⟩ := bndO kb1
                          obtain ⟨r17, kr17, kb1⟩ := bndO kb1
                          obtain ⟨r18, kr18, kb1⟩ := bndO kb1
                          have hq5 := (Option.some.inj kb1).symm
                          simp only [SQ, bin_bool (P := Try.prog) ty4 rfl, ty66, s10.b 2 rfl, sIns, hb2, hw1, hlt1_t, hw2, hlt2_t, hb9, hb10, hb11, Bool.true_beq, Bool.false_beq, Bool.true_bne, Bool.false_bne, Bool.not_true, Bool.not_false, hb13, hq5, n1, n2, n3, n4, n5, n6]
                          refine callP (w_ir_Uses kr16) ?_
                          simp only [SQ, ty66, s10.b 2 rfl, sIns, hb2, hw1, hlt1_t, hw2, hlt2_t, hb9, hb10, hb11, Bool.true_beq, Bool.false_beq, Bool.true_bne, Bool.false_bne, Bool.not_true, Bool.not_false, hb13, hq5, n1, n2, n3, n4, n5, n6]
                          refine callP (w_dyehouseref12_Uses kr17) ?_
                          simp only [SQ, hb2, hw1, hlt1_t, hw2, hlt2_t, hb9, hb10, hb11, Bool.true_beq, Bool.false_beq, Bool.true_bne, Bool.false_bne, Bool.not_true, Bool.not_false, hb13, hq5, n1, n2, n3, n4, n5, n6]
                          refine callP (w_dyehouseref12_Ints kr18) ?_
                          simp only [SQ, hb2, hw1, hlt1_t, hw2, hlt2_t, hb9, hb10, hb11, Bool.true_beq, Bool.false_beq, Bool.true_bne, Bool.false_bne, Bool.not_true, Bool.not_false, hb13, hq5, n1, n2, n3, n4, n5, n6]
                          refine hold_intro ?_
                          exact ⟨⟨rfl, rfl, by first | rfl | simp only [SQ, hb2, hw1, hlt1_t, hw2, hlt2_t, hb9, hb10, hb11, Bool.true_beq, Bool.false_beq, Bool.true_bne, Bool.false_bne, Bool.not_true, Bool.not_false, hb13, hq5, n1, n2, n3, n4, n5, n6]⟩, rfl⟩
                  · rintro a5 _ ⟨f5, rfl⟩
                    refine U_fi f5 ?_
                    rcases Bool.eq_false_or_eq_true (b1) with hb14 | hb14
                    ·
                      rw [if_pos hb14] at hr2
                      refine U_condT (by simp only [SQ, hb2, hw1, hlt1_t, hw2, hlt2_t, hb9, hb14, n1, n2, n3, n4, n5, n6]) ?_
                      refine U_seq ?_
                      refine U_fr 247 [] rfl rfl rfl ?_
                      refine U_reg ?_
                      simp only [SQ, hb2, hw1, hlt1_t, hw2, hlt2_t, hb9, hb14, n1, n2, n3, n4, n5, n6]
                      refine hold_intro ?_
                      refine U_ret ?_
                      replace hr2 := Option.some.inj hr2
                      subst hr2
                      replace hl4 : u3 = .r _ := hl4
                      subst hl4
                      replace hr1 := outE_r hr1
                      replace hr1 := Option.some.inj hr1
                      subst hr1
                      replace hl2 : u1 = .r _ := hl2
                      subst hl2
                      replace h := outE_r h
                      replace h := Option.some.inj h
                      subst h
                      refine ⟨.bool false, by simp only [ires, iress, Try.results8, SQ, List.toList_toArray, hb2, hw1, hlt1_t, hw2, hlt2_t, hb9, hb14, n1, n2, n3, n4, n5, n6], ?_⟩
                      exact .cl (closed_bool _)
                    ·
                      rw [if_neg (by rw [hb14]; decide)] at hr2
                      refine U_condF (by simp only [SQ, hb2, hw1, hlt1_t, hw2, hlt2_t, hb9, hb14, n1, n2, n3, n4, n5, n6]) ?_
                      refine U_skip ?_
                      refine U_seq ?_
                      refine U_reg ?_
                      simp only [SQ, hb2, hw1, hlt1_t, hw2, hlt2_t, hb9, hb14, n1, n2, n3, n4, n5, n6]
                      refine hold_intro ?_
                      refine U_seq ?_
                      refine U_seq ?_
                      refine U_reg ?_
                      simp only [SQ, hb2, hw1, hlt1_t, hw2, hlt2_t, hb9, hb14, n1, n2, n3, n4, n5, n6]
                      refine hold_intro ?_
                      refine U_fr 247 [(1, .int .i64 v_1), (2, .str label_1), (3, .pb d1 0 0), (7, .int .i64 r3), (8, .bool r4), (9, .int .i64 r5), (10, .int .i64 (IntKind.wrap .i64 (nv_3 + 1))), (11, .sim (r6.map eStr) false), (12, .int .i64 i1), (13, .int .i64 i2), (14, .pb d2 0 0), (23, .bool false), (24, .int .i64 0)] rfl rfl rfl ?_
                      obtain ⟨met_2, he3, hr2⟩ := bndO hr2
                      obtain ⟨hhi3, hlo3, he3⟩ := toN_facts he3
                      refine U_cut (fun a' H' => Fi a' 247 [(1, .int .i64 v_1), (2, .str label_1), (3, .pb d1 0 0), (7, .int .i64 r3), (8, .bool r4), (9, .int .i64 r5), (10, .int .i64 (IntKind.wrap .i64 (nv_3 + 1))), (11, .sim (r6.map eStr) false), (12, .int .i64 i1), (13, .int .i64 i2), (14, .pb d2 0 0), (23, .bool met_2)] ∧ HS F [pt d2 ⟨10, [eIns x2]⟩, pt d1 ⟨5, [eFnc f_1]⟩] H') (U_block (U_loop (fun z_ a' H' => match z_ with | (i3, met_1) => forN ((r6.length : Int) - i3).toNat i3 (fun i s => p_dyehouselaw12_IrAsks_b3 fuel r6 x2 i s) met_1 = some met_2 ∧ 0 ≤ i3 ∧ Fi a' 247 [(1, .int .i64 v_1), (2, .str label_1), (3, .pb d1 0 0), (7, .int .i64 r3), (8, .bool r4), (9, .int .i64 r5), (10, .int .i64 (IntKind.wrap .i64 (nv_3 + 1))), (11, .sim (r6.map eStr) false), (12, .int .i64 i1), (13, .int .i64 i2), (14, .pb d2 0 0), (23, .bool met_1), (24, .int .i64 i3)] ∧ HS F [pt d2 ⟨10, [eIns x2]⟩, pt d1 ⟨5, [eFnc f_1]⟩] H' : (Int × Bool) → Fr → Heap → Prop) (fun z_ : Int × Bool => ((r6.length : Int) - z_.1).toNat) (0, false) ?_ ?_)) ?_
                      · exact ⟨he3, Int.le_refl _, ⟨rfl, rfl, by first | rfl | simp only [SQ, hb2, hw1, hlt1_t, hw2, hlt2_t, hb9, hb14, n1, n2, n3, n4, n5, n6]⟩, s10.sel [2, 3] (by decide)⟩
                      ·
                        rintro ⟨i3, met_1⟩ a6 H13 ⟨hf3, hl5, f6, s13⟩
                        refine U_fi f6 ?_
                        by_cases hlt3 : i3 < (r6.length : Int)
                        ·
                          obtain ⟨u6, hr3, hl6⟩ := forN_step hf3 hlt3
                          replace hr3 : p_dyehouselaw12_IrAsks_b3 fuel r6 x2 i3 met_1 = some u6 := hr3
                          unfold p_dyehouselaw12_IrAsks_b3 at hr3
                          have hw3 := wrap_next hlt3 hhi3 hlo3 hl5
                          have hlt3_t : decide (i3 < (r6.length : Int)) = true := decide_eq_true hlt3
                          refine U_seq (U_seq ?_)
                          refine U_reg ?_
                          simp only [SQ, len_sim ty64 rfl, hb2, hw1, hlt1_t, hw2, hlt2_t, hb9, hb14, hw3, hlt3_t, n1, n2, n3, n4, n5, n6]
                          refine hold_intro ?_
                          refine U_condT (by simp only [SQ, hb2, hw1, hlt1_t, hw2, hlt2_t, hb9, hb14, hw3, hlt3_t, n1, n2, n3, n4, n5, n6]) (U_skip ?_)
                          refine U_seq ?_
                          refine U_block ?_
                          refine U_fr 247 [(1, .int .i64 v_1), (2, .str label_1), (3, .pb d1 0 0), (7, .int .i64 r3), (8, .bool r4), (9, .int .i64 r5), (10, .int .i64 (IntKind.wrap .i64 (nv_3 + 1))), (11, .sim (r6.map eStr) false), (12, .int .i64 i1), (13, .int .i64 i2), (14, .pb d2 0 0), (23, .bool met_1), (24, .int .i64 i3)] rfl rfl rfl ?_
                          obtain ⟨b2, kb2, hr3⟩ := bndO hr3
                          refine U_cut (fun a' H' => Fi a' 247 [(1, .int .i64 v_1), (2, .str label_1), (3, .pb d1 0 0), (7, .int .i64 r3), (8, .bool r4), (9, .int .i64 r5), (10, .int .i64 (IntKind.wrap .i64 (nv_3 + 1))), (11, .sim (r6.map eStr) false), (12, .int .i64 i1), (13, .int .i64 i2), (14, .pb d2 0 0), (23, .bool b2), (24, .int .i64 i3)] ∧ H13 = H') ?_ ?_
                          · refine U_drawQ hm [0, 1, 3, 3, 15, 31, 3, 67, 255, 511, 1023] false 8 (by decide +kernel) (by decide) ?_
                            rcases Bool.eq_false_or_eq_true (met_1) with hb15 | hb15
                            ·
                              have hx6 := hb15
                              rw [if_pos hx6] at kb2
                              have hq6 := (Option.some.inj kb2).symm
                              simp only [SQ, hb2, hw1, hlt1_t, hw2, hlt2_t, hb9, hb14, hw3, hlt3_t, hb15, hq6, n1, n2, n3, n4, n5, n6]
                              refine hold_intro ?_
                              exact ⟨⟨rfl, rfl, by first | rfl | simp only [SQ, hb2, hw1, hlt1_t, hw2, hlt2_t, hb9, hb14, hw3, hlt3_t, hb15, hq6, n1, n2, n3, n4, n5, n6]⟩, rfl⟩
                            ·
                              have hx7 := hb15
                              rw [if_neg (by rw [hx7]; decide)] at kb2
                              obtain ⟨x3, kx3, kb2⟩ := bndO kb2
                              have hq7 := (Option.some.inj kb2).symm
                              simp only [SQ, ty64, ty9, iia_sim (f := eStr) ty64 rfl ty9 kx3 rfl, row_sim (f := eStr) kx3, ty66, s13.b 0 rfl, sIns, hb2, hw1, hlt1_t, hw2, hlt2_t, hb9, hb14, hw3, hlt3_t, hb15, hq7, n1, n2, n3, n4, n5, n6]
                              refine hold_intro ?_
                              exact ⟨⟨rfl, rfl, by first | rfl | simp only [SQ, hb2, hw1, hlt1_t, hw2, hlt2_t, hb9, hb14, hw3, hlt3_t, hb15, hq7, n1, n2, n3, n4, n5, n6]⟩, rfl⟩
                          · rintro a7 _ ⟨f7, rfl⟩
                            refine U_fi f7 ?_
                            refine U_reg ?_
                            simp only [SQ, hb2, hw1, hlt1_t, hw2, hlt2_t, hb9, hb14, hw3, hlt3_t, n1, n2, n3, n4, n5, n6]
                            refine hold_intro ?_
                            replace hr3 := Option.some.inj hr3
                            subst hr3
                            refine ⟨(i3 + 1, b2), ?_, hl6, Int.le_add_one hl5, ⟨rfl, rfl, by first | rfl | simp only [SQ, hb2, hw1, hlt1_t, hw2, hlt2_t, hb9, hb14, hw3, hlt3_t, n1, n2, n3, n4, n5, n6]⟩, s13⟩
                            show ((r6.length : Int) - (i3 + 1)).toNat < ((r6.length : Int) - i3).toNat; omega
                        ·
                          have hlt3_e := forN_end hf3 hlt3
                          have hlt3_t : decide (i3 < (r6.length : Int)) = false := decide_eq_false hlt3
                          refine U_seq (U_seq ?_)
                          refine U_reg ?_
                          simp only [SQ, len_sim ty64 rfl, hb2, hw1, hlt1_t, hw2, hlt2_t, hb9, hb14, hlt3_t, n1, n2, n3, n4, n5, n6]
                          refine hold_intro ?_
                          refine U_condF (by simp only [SQ, hb2, hw1, hlt1_t, hw2, hlt2_t, hb9, hb14, hlt3_t, n1, n2, n3, n4, n5, n6]) (U_exit rfl ?_)
                          cases hlt3_e
                          exact ⟨⟨rfl, rfl, by first | rfl | simp only [SQ, hb2, hw1, hlt1_t, hw2, hlt2_t, hb9, hb14, hlt3_t, n1, n2, n3, n4, n5, n6]⟩, s13⟩
                      ·
                        rintro a8 H15 ⟨f8, s15⟩
                        refine U_fi f8 ?_
                        refine U_seq ?_
                        refine U_cut (fun a' H' => Fi a' 247 [(1, .int .i64 v_1), (2, .str label_1), (3, .pb d1 0 0), (7, .int .i64 r3), (8, .bool r4), (9, .int .i64 r5), (10, .int .i64 (IntKind.wrap .i64 (nv_3 + 1))), (11, .sim (r6.map eStr) false), (12, .int .i64 i1), (13, .int .i64 i2), (169, .bool ((decide (x2.op = 19)) && (!met_2)))] ∧ H15 = H') ?_ ?_
                        · refine U_reg ?_
                          rcases Bool.eq_false_or_eq_true (decide (x2.op = 19)) with hb16 | hb16
                          ·
                            simp only [SQ, ty66, ty3, s15.b 0 rfl, sIns, hb2, hw1, hlt1_t, hw2, hlt2_t, hb9, hb14, hb16, n1, n2, n3, n4, n5, n6]
                            refine hold_intro ?_
                            exact ⟨⟨rfl, rfl, by first | rfl | simp only [SQ, hb2, hw1, hlt1_t, hw2, hlt2_t, hb9, hb14, hb16, n1, n2, n3, n4, n5, n6]⟩, rfl⟩
                          ·
                            simp only [SQ, ty66, ty3, s15.b 0 rfl, sIns, hb2, hw1, hlt1_t, hw2, hlt2_t, hb9, hb14, hb16, n1, n2, n3, n4, n5, n6]
                            refine hold_intro ?_
                            exact ⟨⟨rfl, rfl, by first | rfl | simp only [SQ, hb2, hw1, hlt1_t, hw2, hlt2_t, hb9, hb14, hb16, n1, n2, n3, n4, n5, n6]⟩, rfl⟩
                        · rintro a9 _ ⟨f9, rfl⟩
                          refine U_fi f9 ?_
                          rcases Bool.eq_false_or_eq_true (((decide (x2.op = 19)) && (!met_2))) with hb17 | hb17
                          ·
                            rw [if_pos hb17] at hr2
                            refine U_condT (by simp only [SQ, hb2, hw1, hlt1_t, hw2, hlt2_t, hb9, hb14, hb17, n1, n2, n3, n4, n5, n6]) ?_
                            refine U_seq ?_
                            refine U_reg ?_
                            simp only [SQ, hb2, hw1, hlt1_t, hw2, hlt2_t, hb9, hb14, hb17, n1, n2, n3, n4, n5, n6]
                            refine hold_intro ?_
                            refine U_ret ?_
                            replace hr2 := Option.some.inj hr2
                            subst hr2
                            replace hl4 : u3 = .r _ := hl4
                            subst hl4
                            replace hr1 := outE_r hr1
                            replace hr1 := Option.some.inj hr1
                            subst hr1
                            replace hl2 : u1 = .r _ := hl2
                            subst hl2
                            replace h := outE_r h
                            replace h := Option.some.inj h
                            subst h
                            refine ⟨.bool false, by simp only [ires, iress, Try.results8, SQ, List.toList_toArray, hb2, hw1, hlt1_t, hw2, hlt2_t, hb9, hb14, hb17, n1, n2, n3, n4, n5, n6], ?_⟩
                            exact .cl (closed_bool _)
                          ·
                            rw [if_neg (by rw [hb17]; decide)] at hr2
                            refine U_condF (by simp only [SQ, hb2, hw1, hlt1_t, hw2, hlt2_t, hb9, hb14, hb17, n1, n2, n3, n4, n5, n6]) ?_
                            refine U_skip ?_
                            refine U_reg ?_
                            simp only [SQ, hb2, hw1, hlt1_t, hw2, hlt2_t, hb9, hb14, hb17, n1, n2, n3, n4, n5, n6]
                            refine hold_intro ?_
                            replace hr2 := Option.some.inj hr2
                            subst hr2
                            refine ⟨(i2 + 1, IntKind.wrap .i64 (nv_3 + 1)), ?_, hl4, Int.le_add_one hl3, ⟨rfl, rfl, by first | rfl | simp only [SQ, hb2, hw1, hlt1_t, hw2, hlt2_t, hb9, hb14, hb17, n1, n2, n3, n4, n5, n6]⟩, s15.sel [1] (by decide)⟩
                            show ((x1.code.length : Int) - (i2 + 1)).toNat < ((x1.code.length : Int) - i2).toNat; omega
            ·
              have hlt2_e := forE_end hf2 hlt2
              have hlt2_t : decide (i2 < (x1.code.length : Int)) = false := decide_eq_false hlt2
              refine U_seq (U_seq ?_)
              refine U_reg ?_
              simp only [SQ, ty26, ty24, s4.b 0 rfl, sFnc, ty63, iia_sim (f := eBl) ty24 rfl ty63 kx1 rfl, row_sim (f := eBl) kx1, sBl, ty61, len_sim ty61 rfl, hb2, hw1, hlt1_t, hlt2_t, n1, n2, n3, n4, n5, n6]
              refine hold_intro ?_
              refine U_condF (by simp only [SQ, hb2, hw1, hlt1_t, hlt2_t, n1, n2, n3, n4, n5, n6]) (U_exit rfl ?_)
              exact ⟨_, hlt2_e, ⟨rfl, rfl, by first | rfl | simp only [SQ, hb2, hw1, hlt1_t, hlt2_t, n1, n2, n3, n4, n5, n6]⟩, s4⟩
          ·
            rintro a10 H17 ⟨nv_4, rfl, f10, s17⟩
            replace hr1 := outE_n hr1
            refine U_fi f10 ?_
            refine U_reg ?_
            simp only [SQ, hb2, hw1, hlt1_t, n1, n2, n3, n4, n5, n6]
            refine hold_intro ?_
            replace hr1 := Option.some.inj hr1
            subst hr1
            refine ⟨(i1 + 1, nv_4), ?_, hl2, Int.le_add_one hl1, ⟨rfl, rfl, by first | rfl | simp only [SQ, hb2, hw1, hlt1_t, n1, n2, n3, n4, n5, n6]⟩, s17⟩
            show ((f_1.blocks.length : Int) - (i1 + 1)).toNat < ((f_1.blocks.length : Int) - i1).toNat; omega
        ·
          have hlt1_e := forE_end hf1 hlt1
          have hlt1_t : decide (i1 < (f_1.blocks.length : Int)) = false := decide_eq_false hlt1
          refine U_seq (U_seq ?_)
          refine U_reg ?_
          simp only [SQ, ty26, ty24, s3.b 0 rfl, sFnc, len_sim ty24 rfl, hb2, hlt1_t, n1, n2, n3, n4, n5, n6]
          refine hold_intro ?_
          refine U_condF (by simp only [SQ, hb2, hlt1_t, n1, n2, n3, n4, n5, n6]) (U_exit rfl ?_)
          exact ⟨_, hlt1_e, ⟨rfl, rfl, by first | rfl | simp only [SQ, hb2, hlt1_t, n1, n2, n3, n4, n5, n6]⟩, s3⟩
      ·
        rintro a11 H18 ⟨nv_2, rfl, f11, s18⟩
        replace h := outE_n h
        refine U_fi f11 ?_
        refine U_seq ?_
        refine U_seq ?_
        refine U_reg ?_
        simp only [SQ, hb2, n1, n2, n3, n4, n5, n6]
        refine hold_intro ?_
        refine U_fr 247 [(1, .int .i64 v_1), (2, .str label_1), (3, .pb d1 0 0), (7, .int .i64 r3), (8, .bool r4), (9, .int .i64 r5), (10, .int .i64 nv_2), (11, .sim (r6.map eStr) false), (25, .int .i64 1)] rfl rfl rfl ?_
        obtain ⟨u7, he4, h⟩ := bndE h
        obtain ⟨hhi4, hlo4, he4⟩ := toE_facts he4
        refine U_cut (fun a' H' => u7 = .n () ∧ Fi a' 247 [(1, .int .i64 v_1), (2, .str label_1), (3, .pb d1 0 0), (7, .int .i64 r3), (8, .bool r4), (9, .int .i64 r5), (10, .int .i64 nv_2), (11, .sim (r6.map eStr) false)] ∧ HS F [pt d1 ⟨5, [eFnc f_1]⟩] H') (U_block (U_loop (fun z_ a' H' => match z_ with | i4 => forE ((r6.length : Int) - i4).toNat i4 (fun i _ => p_dyehouselaw12_IrAsks_b4 fuel r6 i) () = some u7 ∧ 1 ≤ i4 ∧ Fi a' 247 [(1, .int .i64 v_1), (2, .str label_1), (3, .pb d1 0 0), (7, .int .i64 r3), (8, .bool r4), (9, .int .i64 r5), (10, .int .i64 nv_2), (11, .sim (r6.map eStr) false), (25, .int .i64 i4)] ∧ HS F [pt d1 ⟨5, [eFnc f_1]⟩] H' : Int → Fr → Heap → Prop) (fun z_ : Int => ((r6.length : Int) - z_).toNat) 1 ?_ ?_)) ?_
        · exact ⟨he4, Int.le_refl _, ⟨rfl, rfl, by first | rfl | simp only [SQ, hb2, n1, n2, n3, n4, n5, n6]⟩, s18⟩
        ·
          rintro i4 a12 H19 ⟨hf4, hl7, f12, s19⟩
          refine U_fi f12 ?_
          by_cases hlt4 : i4 < (r6.length : Int)
          ·
            obtain ⟨u8, hr4, hl8⟩ := forE_step hf4 hlt4
            replace hr4 : p_dyehouselaw12_IrAsks_b4 fuel r6 i4 = some u8 := hr4
            unfold p_dyehouselaw12_IrAsks_b4 at hr4
            have hw4 := wrap_next hlt4 hhi4 hlo4 hl7
            have hlt4_t : decide (i4 < (r6.length : Int)) = true := decide_eq_true hlt4
            refine U_seq (U_seq ?_)
            refine U_reg ?_
            simp only [SQ, len_sim ty64 rfl, hb2, hw4, hlt4_t, n1, n2, n3, n4, n5, n6]
            refine hold_intro ?_
            refine U_condT (by simp only [SQ, hb2, hw4, hlt4_t, n1, n2, n3, n4, n5, n6]) (U_skip ?_)
            refine U_seq ?_
            refine U_block ?_
            refine U_seq ?_
            obtain ⟨x4, kx4, hr4⟩ := bndO hr4
            obtain ⟨x5, kx5, hr4⟩ := bndO hr4
            refine U_drawQ hm [0, 0, 2, 7, 15, 0, 0, 96, 224, 511] false 9 (by decide +kernel) (by decide) ?_
            simp only [SQ, ty64, ty9, iia_sim (f := eStr) ty64 rfl ty9 kx4 rfl, row_sim (f := eStr) kx4, iia_sim (f := eStr) ty64 rfl ty9 kx5 rfl, row_sim (f := eStr) kx5, bin_sge, hb2, hw4, hlt4_t, n1, n2, n3, n4, n5, n6]
            refine hold_intro ?_
            rcases Bool.eq_false_or_eq_true ((!slt x4 x5)) with hb18 | hb18
            ·
              rw [if_pos hb18] at hr4
              refine U_condT (by simp only [SQ, hb2, hw4, hlt4_t, hb18, n1, n2, n3, n4, n5, n6]) ?_
              refine U_seq ?_
              refine U_fr 247 [] rfl rfl rfl ?_
              refine U_reg ?_
              simp only [SQ, hb2, hw4, hlt4_t, hb18, n1, n2, n3, n4, n5, n6]
              refine hold_intro ?_
              refine U_ret ?_
              replace hr4 := Option.some.inj hr4
              subst hr4
              replace hl8 : u7 = .r _ := hl8
              subst hl8
              replace h := outE_r h
              replace h := Option.some.inj h
              subst h
              refine ⟨.bool false, by simp only [ires, iress, Try.results8, SQ, List.toList_toArray, hb2, hw4, hlt4_t, hb18, n1, n2, n3, n4, n5, n6], ?_⟩
              exact .cl (closed_bool _)
            ·
              rw [if_neg (by rw [hb18]; decide)] at hr4
              refine U_condF (by simp only [SQ, hb2, hw4, hlt4_t, hb18, n1, n2, n3, n4, n5, n6]) ?_
              refine U_skip ?_
              refine U_reg ?_
              simp only [SQ, hb2, hw4, hlt4_t, hb18, n1, n2, n3, n4, n5, n6]
              refine hold_intro ?_
              replace hr4 := Option.some.inj hr4
              subst hr4
              refine ⟨i4 + 1, ?_, hl8, Int.le_add_one hl7, ⟨rfl, rfl, by first | rfl | simp only [SQ, hb2, hw4, hlt4_t, hb18, n1, n2, n3, n4, n5, n6]⟩, s19⟩
              show ((r6.length : Int) - (i4 + 1)).toNat < ((r6.length : Int) - i4).toNat; omega
          ·
            have hlt4_e := forE_end hf4 hlt4
            have hlt4_t : decide (i4 < (r6.length : Int)) = false := decide_eq_false hlt4
            refine U_seq (U_seq ?_)
            refine U_reg ?_
            simp only [SQ, len_sim ty64 rfl, hb2, hlt4_t, n1, n2, n3, n4, n5, n6]
            refine hold_intro ?_
            refine U_condF (by simp only [SQ, hb2, hlt4_t, n1, n2, n3, n4, n5, n6]) (U_exit rfl ?_)
            exact ⟨hlt4_e, ⟨rfl, rfl, by first | rfl | simp only [SQ, hb2, hlt4_t, n1, n2, n3, n4, n5, n6]⟩, s19⟩
        ·
          rintro a13 H20 ⟨rfl, f13, s20⟩
          replace h := outE_n h
          refine U_fi f13 ?_
          refine U_seq ?_
          refine U_reg ?_
          simp only [SQ, hb2, n1, n2, n3, n4, n5, n6]
          refine hold_intro ?_
          refine U_seq ?_
          refine U_seq ?_
          refine U_reg ?_
          simp only [SQ, hb2, n1, n2, n3, n4, n5, n6]
          refine hold_intro ?_
          refine U_fr 247 [(1, .int .i64 v_1), (2, .str label_1), (3, .pb d1 0 0), (7, .int .i64 r3), (8, .bool r4), (9, .int .i64 r5), (10, .int .i64 nv_2), (11, .sim (r6.map eStr) false), (26, .bool false), (27, .int .i64 0)] rfl rfl rfl ?_
          obtain ⟨has_2, he5, h⟩ := bndO h
          obtain ⟨hhi5, hlo5, he5⟩ := toN_facts he5
          refine U_cut (fun a' H' => Fi a' 247 [(2, .str label_1), (3, .pb d1 0 0), (7, .int .i64 r3), (8, .bool r4), (9, .int .i64 r5), (10, .int .i64 nv_2), (11, .sim (r6.map eStr) false), (26, .bool has_2)] ∧ HS F [pt d1 ⟨5, [eFnc f_1]⟩] H') (U_block (U_loop (fun z_ a' H' => match z_ with | (i5, has_1) => forN ((f_1.regs.length : Int) - i5).toNat i5 (fun i s => p_dyehouselaw12_IrAsks_b5 fuel f_1 v_1 i s) has_1 = some has_2 ∧ 0 ≤ i5 ∧ Fi a' 247 [(1, .int .i64 v_1), (2, .str label_1), (3, .pb d1 0 0), (7, .int .i64 r3), (8, .bool r4), (9, .int .i64 r5), (10, .int .i64 nv_2), (11, .sim (r6.map eStr) false), (26, .bool has_1), (27, .int .i64 i5)] ∧ HS F [pt d1 ⟨5, [eFnc f_1]⟩] H' : (Int × Bool) → Fr → Heap → Prop) (fun z_ : Int × Bool => ((f_1.regs.length : Int) - z_.1).toNat) (0, false) ?_ ?_)) ?_
          · exact ⟨he5, Int.le_refl _, ⟨rfl, rfl, by first | rfl | simp only [SQ, hb2, n1, n2, n3, n4, n5, n6]⟩, s20⟩
          ·
            rintro ⟨i5, has_1⟩ a14 H21 ⟨hf5, hl9, f14, s21⟩
            refine U_fi f14 ?_
            by_cases hlt5 : i5 < (f_1.regs.length : Int)
            ·
              obtain ⟨u10, hr5, hl10⟩ := forN_step hf5 hlt5
              replace hr5 : p_dyehouselaw12_IrAsks_b5 fuel f_1 v_1 i5 has_1 = some u10 := hr5
              unfold p_dyehouselaw12_IrAsks_b5 at hr5
              have hw5 := wrap_next hlt5 hhi5 hlo5 hl9
              have hlt5_t : decide (i5 < (f_1.regs.length : Int)) = true := decide_eq_true hlt5
              refine U_seq (U_seq ?_)
              refine U_reg ?_
              simp only [SQ, ty26, ty22, s21.b 0 rfl, sFnc, len_sim ty22 rfl, hb2, hw5, hlt5_t, n1, n2, n3, n4, n5, n6]
              refine hold_intro ?_
              refine U_condT (by simp only [SQ, hb2, hw5, hlt5_t, n1, n2, n3, n4, n5, n6]) (U_skip ?_)
              refine U_seq ?_
              refine U_block ?_
              refine U_fr 247 [(1, .int .i64 v_1), (2, .str label_1), (3, .pb d1 0 0), (7, .int .i64 r3), (8, .bool r4), (9, .int .i64 r5), (10, .int .i64 nv_2), (11, .sim (r6.map eStr) false), (26, .bool has_1), (27, .int .i64 i5)] rfl rfl rfl ?_
              obtain ⟨b3, kb3, hr5⟩ := bndO hr5
              refine U_cut (fun a' H' => Fi a' 247 [(1, .int .i64 v_1), (2, .str label_1), (3, .pb d1 0 0), (7, .int .i64 r3), (8, .bool r4), (9, .int .i64 r5), (10, .int .i64 nv_2), (11, .sim (r6.map eStr) false), (26, .bool b3), (27, .int .i64 i5)] ∧ H21 = H') ?_ ?_
              · refine U_reg ?_
                rcases Bool.eq_false_or_eq_true (has_1) with hb19 | hb19
                ·
                  have hx8 := hb19
                  rw [if_pos hx8] at kb3
                  have hq8 := (Option.some.inj kb3).symm
                  simp only [SQ, hb2, hw5, hlt5_t, hb19, hq8, n1, n2, n3, n4, n5, n6]
                  refine hold_intro ?_
                  exact ⟨⟨rfl, rfl, by first | rfl | simp only [SQ, hb2, hw5, hlt5_t, hb19, hq8, n1, n2, n3, n4, n5, n6]⟩, rfl⟩
                ·
                  have hx9 := hb19
                  rw [if_neg (by rw [hx9]; decide)] at kb3
                  obtain ⟨x6, kx6, kb3⟩ := bndO kb3
                  have hq9 := (Option.some.inj kb3).symm
                  simp only [SQ, ty26, ty22, s21.b 0 rfl, sFnc, ty84, iia_sim (f := eRg) ty22 rfl ty84 kx6 rfl, row_sim (f := eRg) kx6, sRg, ty3, hb2, hw5, hlt5_t, hb19, hq9, n1, n2, n3, n4, n5, n6]
                  refine hold_intro ?_
                  exact ⟨⟨rfl, rfl, by first | rfl | simp only [SQ, hb2, hw5, hlt5_t, hb19, hq9, n1, n2, n3, n4, n5, n6]⟩, rfl⟩
              · rintro a15 _ ⟨f15, rfl⟩
                refine U_fi f15 ?_
                refine U_reg ?_
                simp only [SQ, hb2, hw5, hlt5_t, n1, n2, n3, n4, n5, n6]
                refine hold_intro ?_
                replace hr5 := Option.some.inj hr5
                subst hr5
                refine ⟨(i5 + 1, b3), ?_, hl10, Int.le_add_one hl9, ⟨rfl, rfl, by first | rfl | simp only [SQ, hb2, hw5, hlt5_t, n1, n2, n3, n4, n5, n6]⟩, s21⟩
                show ((f_1.regs.length : Int) - (i5 + 1)).toNat < ((f_1.regs.length : Int) - i5).toNat; omega
            ·
              have hlt5_e := forN_end hf5 hlt5
              have hlt5_t : decide (i5 < (f_1.regs.length : Int)) = false := decide_eq_false hlt5
              refine U_seq (U_seq ?_)
              refine U_reg ?_
              simp only [SQ, ty26, ty22, s21.b 0 rfl, sFnc, len_sim ty22 rfl, hb2, hlt5_t, n1, n2, n3, n4, n5, n6]
              refine hold_intro ?_
              refine U_condF (by simp only [SQ, hb2, hlt5_t, n1, n2, n3, n4, n5, n6]) (U_exit rfl ?_)
              cases hlt5_e
              exact ⟨⟨rfl, rfl, by first | rfl | simp only [SQ, hb2, hlt5_t, n1, n2, n3, n4, n5, n6]⟩, s21⟩
          ·
            rintro a16 H23 ⟨f16, s23⟩
            refine U_fi f16 ?_
            refine U_seq ?_
            obtain ⟨b4, kb4, h⟩ := bndO h
            obtain ⟨b5, kb5, h⟩ := bndO h
            obtain ⟨b6, kb6, h⟩ := bndO h
            refine U_cut (fun a' H' => Fi a' 247 [(6, .bool b6)] ∧ H23 = H') ?_ ?_
            · refine U_drawQ hm [0, 0, 3, 7, 15, 31, 63, 63, 255, 511, 1023, 2047, 4095, 8191, 16383, 32767, 65535, 131071, 262143, 524287, 1048575, 1048575, 4194303, 1048575, 1048575, 33554431, 67108863, 134217727, 268435455, 536870911, 1073741823, 536870911, 4294967295, 8589934591, 17179869183, 34359738367, 68719476735, 34359738367, 274877906943, 549755813887, 1099511627775, 2199023255551, 4398046511103, 8796093022207] false 38 (by decide +kernel) (by decide) ?_
              rcases Bool.eq_false_or_eq_true (r4) with hb20 | hb20
              ·
                rcases Bool.eq_false_or_eq_true (has_2) with hb21 | hb21
                ·
                  rcases Bool.eq_false_or_eq_true (decide (r3 = r5)) with hb22 | hb22
                  ·
                    have hx10 : ((r4 == has_2) && ((has_2 && (decide (r3 = r5))) || ((!has_2) && (decide (r3 = 0))))) = true := by simp only [SQ, hb20, Bool.true_beq, Bool.false_beq, Bool.true_bne, Bool.false_bne, Bool.not_true, Bool.not_false, hb21, Bool.true_beq, Bool.false_beq, Bool.true_bne, Bool.false_bne, Bool.not_true, Bool.not_false, hb22]
                    rw [if_pos hx10] at kb4
                    obtain ⟨r19, kr19, kb4⟩ := bndO kb4
                    obtain ⟨r20, kr20, kb4⟩ := bndO kb4
                    have hq10 := (Option.some.inj kb4).symm
                    rcases Bool.eq_false_or_eq_true (decide (r19 = r20)) with hb23 | hb23
                    ·
                      have hx11 : b4 = true := by simp only [SQ, hb20, Bool.true_beq, Bool.false_beq, Bool.true_bne, Bool.false_bne, Bool.not_true, Bool.not_false, hb21, Bool.true_beq, Bool.false_beq, Bool.true_bne, Bool.false_bne, Bool.not_true, Bool.not_false, hb22, hq10, hb23]
                      rw [if_pos hx11] at kb5
                      obtain ⟨r21, kr21, kb5⟩ := bndO kb5
                      have hq11 := (Option.some.inj kb5).symm
                      rcases Bool.eq_false_or_eq_true (decide (r21 = nv_2)) with hb24 | hb24
                      ·
                        rcases Bool.eq_false_or_eq_true (decide ((r6.length : Int) ≤ nv_2)) with hb25 | hb25
                        ·
                          have hx12 : (b5 && (decide ((r6.length : Int) ≤ nv_2))) = true := by simp only [SQ, hb20, Bool.true_beq, Bool.false_beq, Bool.true_bne, Bool.false_bne, Bool.not_true, Bool.not_false, hb21, Bool.true_beq, Bool.false_beq, Bool.true_bne, Bool.false_bne, Bool.not_true, Bool.not_false, hb22, hq10, hb23, hq11, hb24, hb25]
                          rw [if_pos hx12] at kb6
                          obtain ⟨r22, kr22, kb6⟩ := bndO kb6
                          have hq12 := (Option.some.inj kb6).symm
                          simp only [SQ, bin_bool (P := Try.prog) ty4 rfl, ty26, s23.b 0 rfl, sFnc, hb2, hb20, Bool.true_beq, Bool.false_beq, Bool.true_bne, Bool.false_bne, Bool.not_true, Bool.not_false, hb21, hb22, hq10, hb23, hq11, hb24, hb25, hq12, n1, n2, n3, n4, n5, n6]
                          refine callP (w_ir_Find kr19) ?_
                          simp only [SQ, ty26, s23.b 0 rfl, sFnc, hb2, hb20, Bool.true_beq, Bool.false_beq, Bool.true_bne, Bool.false_bne, Bool.not_true, Bool.not_false, hb21, hb22, hq10, hb23, hq11, hb24, hb25, hq12, n1, n2, n3, n4, n5, n6]
                          refine callP (w_dyehouseref12_Find kr20) ?_
                          simp only [SQ, ty26, s23.b 0 rfl, sFnc, hb2, hb20, Bool.true_beq, Bool.false_beq, Bool.true_bne, Bool.false_bne, Bool.not_true, Bool.not_false, hb21, hb22, hq10, hb23, hq11, hb24, hb25, hq12, n1, n2, n3, n4, n5, n6]
                          refine callP (w_ir_Count kr21) ?_
                          simp only [SQ, len_sim ty64 rfl, hb2, hb20, Bool.true_beq, Bool.false_beq, Bool.true_bne, Bool.false_bne, Bool.not_true, Bool.not_false, hb21, hb22, hq10, hb23, hq11, hb24, hb25, hq12, n1, n2, n3, n4, n5, n6]
                          refine callP (w_dyehouselaw12_works kr22) ?_
                          simp only [SQ, hb2, hb20, Bool.true_beq, Bool.false_beq, Bool.true_bne, Bool.false_bne, Bool.not_true, Bool.not_false, hb21, hb22, hq10, hb23, hq11, hb24, hb25, hq12, n1, n2, n3, n4, n5, n6]
                          refine hold_intro ?_
                          exact ⟨⟨rfl, rfl, by first | rfl | simp only [SQ, hb2, hb20, Bool.true_beq, Bool.false_beq, Bool.true_bne, Bool.false_bne, Bool.not_true, Bool.not_false, hb21, hb22, hq10, hb23, hq11, hb24, hb25, hq12, n1, n2, n3, n4, n5, n6]⟩, rfl⟩
                        ·
                          have hx13 : (b5 && (decide ((r6.length : Int) ≤ nv_2))) = false := by simp only [SQ, hb20, Bool.true_beq, Bool.false_beq, Bool.true_bne, Bool.false_bne, Bool.not_true, Bool.not_false, hb21, Bool.true_beq, Bool.false_beq, Bool.true_bne, Bool.false_bne, Bool.not_true, Bool.not_false, hb22, hq10, hb23, hq11, hb24, hb25]
                          rw [if_neg (by rw [hx13]; decide)] at kb6
                          have hq13 := (Option.some.inj kb6).symm
                          simp only [SQ, bin_bool (P := Try.prog) ty4 rfl, ty26, s23.b 0 rfl, sFnc, hb2, hb20, Bool.true_beq, Bool.false_beq, Bool.true_bne, Bool.false_bne, Bool.not_true, Bool.not_false, hb21, hb22, hq10, hb23, hq11, hb24, hb25, hq13, n1, n2, n3, n4, n5, n6]
                          refine callP (w_ir_Find kr19) ?_
                          simp only [SQ, ty26, s23.b 0 rfl, sFnc, hb2, hb20, Bool.true_beq, Bool.false_beq, Bool.true_bne, Bool.false_bne, Bool.not_true, Bool.not_false, hb21, hb22, hq10, hb23, hq11, hb24, hb25, hq13, n1, n2, n3, n4, n5, n6]
                          refine callP (w_dyehouseref12_Find kr20) ?_
                          simp only [SQ, ty26, s23.b 0 rfl, sFnc, hb2, hb20, Bool.true_beq, Bool.false_beq, Bool.true_bne, Bool.false_bne, Bool.not_true, Bool.not_false, hb21, hb22, hq10, hb23, hq11, hb24, hb25, hq13, n1, n2, n3, n4, n5, n6]
                          refine callP (w_ir_Count kr21) ?_
                          simp only [SQ, len_sim ty64 rfl, hb2, hb20, Bool.true_beq, Bool.false_beq, Bool.true_bne, Bool.false_bne, Bool.not_true, Bool.not_false, hb21, hb22, hq10, hb23, hq11, hb24, hb25, hq13, n1, n2, n3, n4, n5, n6]
                          refine hold_intro ?_
                          exact ⟨⟨rfl, rfl, by first | rfl | simp only [SQ, hb2, hb20, Bool.true_beq, Bool.false_beq, Bool.true_bne, Bool.false_bne, Bool.not_true, Bool.not_false, hb21, hb22, hq10, hb23, hq11, hb24, hb25, hq13, n1, n2, n3, n4, n5, n6]⟩, rfl⟩
                      ·
                        have hx14 : (b5 && (decide ((r6.length : Int) ≤ nv_2))) = false := by simp only [SQ, hb20, Bool.true_beq, Bool.false_beq, Bool.true_bne, Bool.false_bne, Bool.not_true, Bool.not_false, hb21, Bool.true_beq, Bool.false_beq, Bool.true_bne, Bool.false_bne, Bool.not_true, Bool.not_false, hb22, hq10, hb23, hq11, hb24]
                        rw [if_neg (by rw [hx14]; decide)] at kb6
                        have hq14 := (Option.some.inj kb6).symm
                        simp only [SQ, bin_bool (P := Try.prog) ty4 rfl, ty26, s23.b 0 rfl, sFnc, hb2, hb20, Bool.true_beq, Bool.false_beq, Bool.true_bne, Bool.false_bne, Bool.not_true, Bool.not_false, hb21, hb22, hq10, hb23, hq11, hb24, hq14, n1, n2, n3, n4, n5, n6]
                        refine callP (w_ir_Find kr19) ?_
                        simp only [SQ, ty26, s23.b 0 rfl, sFnc, hb2, hb20, Bool.true_beq, Bool.false_beq, Bool.true_bne, Bool.false_bne, Bool.not_true, Bool.not_false, hb21, hb22, hq10, hb23, hq11, hb24, hq14, n1, n2, n3, n4, n5, n6]
                        refine callP (w_dyehouseref12_Find kr20) ?_
                        simp only [SQ, ty26, s23.b 0 rfl, sFnc, hb2, hb20, Bool.true_beq, Bool.false_beq, Bool.true_bne, Bool.false_bne, Bool.not_true, Bool.not_false, hb21, hb22, hq10, hb23, hq11, hb24, hq14, n1, n2, n3, n4, n5, n6]
                        refine callP (w_ir_Count kr21) ?_
                        simp only [SQ, hb2, hb20, Bool.true_beq, Bool.false_beq, Bool.true_bne, Bool.false_bne, Bool.not_true, Bool.not_false, hb21, hb22, hq10, hb23, hq11, hb24, hq14, n1, n2, n3, n4, n5, n6]
                        refine hold_intro ?_
                        exact ⟨⟨rfl, rfl, by first | rfl | simp only [SQ, hb2, hb20, Bool.true_beq, Bool.false_beq, Bool.true_bne, Bool.false_bne, Bool.not_true, Bool.not_false, hb21, hb22, hq10, hb23, hq11, hb24, hq14, n1, n2, n3, n4, n5, n6]⟩, rfl⟩
                    ·
                      have hx15 : b4 = false := by simp only [SQ, hb20, Bool.true_beq, Bool.false_beq, Bool.true_bne, Bool.false_bne, Bool.not_true, Bool.not_false, hb21, Bool.true_beq, Bool.false_beq, Bool.true_bne, Bool.false_bne, Bool.not_true, Bool.not_false, hb22, hq10, hb23]
                      rw [if_neg (by rw [hx15]; decide)] at kb5
                      have hq15 := (Option.some.inj kb5).symm
                      have hx16 : (b5 && (decide ((r6.length : Int) ≤ nv_2))) = false := by simp only [SQ, hb20, Bool.true_beq, Bool.false_beq, Bool.true_bne, Bool.false_bne, Bool.not_true, Bool.not_false, hb21, Bool.true_beq, Bool.false_beq, Bool.true_bne, Bool.false_bne, Bool.not_true, Bool.not_false, hb22, hq10, hb23, hq15]
                      rw [if_neg (by rw [hx16]; decide)] at kb6
                      have hq16 := (Option.some.inj kb6).symm
                      simp only [SQ, bin_bool (P := Try.prog) ty4 rfl, ty26, s23.b 0 rfl, sFnc, hb2, hb20, Bool.true_beq, Bool.false_beq, Bool.true_bne, Bool.false_bne, Bool.not_true, Bool.not_false, hb21, hb22, hq10, hb23, hq15, hq16, n1, n2, n3, n4, n5, n6]
                      refine callP (w_ir_Find kr19) ?_
                      simp only [SQ, ty26, s23.b 0 rfl, sFnc, hb2, hb20, Bool.true_beq, Bool.false_beq, Bool.true_bne, Bool.false_bne, Bool.not_true, Bool.not_false, hb21, hb22, hq10, hb23, hq15, hq16, n1, n2, n3, n4, n5, n6]
                      refine callP (w_dyehouseref12_Find kr20) ?_
                      simp only [SQ, hb2, hb20, Bool.true_beq, Bool.false_beq, Bool.true_bne, Bool.false_bne, Bool.not_true, Bool.not_false, hb21, hb22, hq10, hb23, hq15, hq16, n1, n2, n3, n4, n5, n6]
                      refine hold_intro ?_
                      exact ⟨⟨rfl, rfl, by first | rfl | simp only [SQ, hb2, hb20, Bool.true_beq, Bool.false_beq, Bool.true_bne, Bool.false_bne, Bool.not_true, Bool.not_false, hb21, hb22, hq10, hb23, hq15, hq16, n1, n2, n3, n4, n5, n6]⟩, rfl⟩
                  ·
                    have hx17 : ((r4 == has_2) && ((has_2 && (decide (r3 = r5))) || ((!has_2) && (decide (r3 = 0))))) = false := by simp only [SQ, hb20, Bool.true_beq, Bool.false_beq, Bool.true_bne, Bool.false_bne, Bool.not_true, Bool.not_false, hb21, Bool.true_beq, Bool.false_beq, Bool.true_bne, Bool.false_bne, Bool.not_true, Bool.not_false, hb22]
                    rw [if_neg (by rw [hx17]; decide)] at kb4
                    have hq17 := (Option.some.inj kb4).symm
                    have hx18 : b4 = false := by simp only [SQ, hb20, Bool.true_beq, Bool.false_beq, Bool.true_bne, Bool.false_bne, Bool.not_true, Bool.not_false, hb21, Bool.true_beq, Bool.false_beq, Bool.true_bne, Bool.false_bne, Bool.not_true, Bool.not_false, hb22, hq17]
                    rw [if_neg (by rw [hx18]; decide)] at kb5
                    have hq18 := (Option.some.inj kb5).symm
                    have hx19 : (b5 && (decide ((r6.length : Int) ≤ nv_2))) = false := by simp only [SQ, hb20, Bool.true_beq, Bool.false_beq, Bool.true_bne, Bool.false_bne, Bool.not_true, Bool.not_false, hb21, Bool.true_beq, Bool.false_beq, Bool.true_bne, Bool.false_bne, Bool.not_true, Bool.not_false, hb22, hq17, hq18]
                    rw [if_neg (by rw [hx19]; decide)] at kb6
                    have hq19 := (Option.some.inj kb6).symm
                    simp only [SQ, bin_bool (P := Try.prog) ty4 rfl, hb2, hb20, Bool.true_beq, Bool.false_beq, Bool.true_bne, Bool.false_bne, Bool.not_true, Bool.not_false, hb21, hb22, hq17, hq18, hq19, n1, n2, n3, n4, n5, n6]
                    refine hold_intro ?_
                    exact ⟨⟨rfl, rfl, by first | rfl | simp only [SQ, hb2, hb20, Bool.true_beq, Bool.false_beq, Bool.true_bne, Bool.false_bne, Bool.not_true, Bool.not_false, hb21, hb22, hq17, hq18, hq19, n1, n2, n3, n4, n5, n6]⟩, rfl⟩
                ·
                  have hx20 : ((r4 == has_2) && ((has_2 && (decide (r3 = r5))) || ((!has_2) && (decide (r3 = 0))))) = false := by simp only [SQ, hb20, Bool.true_beq, Bool.false_beq, Bool.true_bne, Bool.false_bne, Bool.not_true, Bool.not_false, hb21, Bool.true_beq, Bool.false_beq, Bool.true_bne, Bool.false_bne, Bool.not_true, Bool.not_false]
                  rw [if_neg (by rw [hx20]; decide)] at kb4
                  have hq20 := (Option.some.inj kb4).symm
                  have hx21 : b4 = false := by simp only [SQ, hb20, Bool.true_beq, Bool.false_beq, Bool.true_bne, Bool.false_bne, Bool.not_true, Bool.not_false, hb21, Bool.true_beq, Bool.false_beq, Bool.true_bne, Bool.false_bne, Bool.not_true, Bool.not_false, hq20]
                  rw [if_neg (by rw [hx21]; decide)] at kb5
                  have hq21 := (Option.some.inj kb5).symm
                  have hx22 : (b5 && (decide ((r6.length : Int) ≤ nv_2))) = false := by simp only [SQ, hb20, Bool.true_beq, Bool.false_beq, Bool.true_bne, Bool.false_bne, Bool.not_true, Bool.not_false, hb21, Bool.true_beq, Bool.false_beq, Bool.true_bne, Bool.false_bne, Bool.not_true, Bool.not_false, hq20, hq21]
                  rw [if_neg (by rw [hx22]; decide)] at kb6
                  have hq22 := (Option.some.inj kb6).symm
                  simp only [SQ, bin_bool (P := Try.prog) ty4 rfl, hb2, hb20, Bool.true_beq, Bool.false_beq, Bool.true_bne, Bool.false_bne, Bool.not_true, Bool.not_false, hb21, hq20, hq21, hq22, n1, n2, n3, n4, n5, n6]
                  refine hold_intro ?_
                  exact ⟨⟨rfl, rfl, by first | rfl | simp only [SQ, hb2, hb20, Bool.true_beq, Bool.false_beq, Bool.true_bne, Bool.false_bne, Bool.not_true, Bool.not_false, hb21, hq20, hq21, hq22, n1, n2, n3, n4, n5, n6]⟩, rfl⟩
              ·
                rcases Bool.eq_false_or_eq_true (has_2) with hb26 | hb26
                ·
                  have hx23 : ((r4 == has_2) && ((has_2 && (decide (r3 = r5))) || ((!has_2) && (decide (r3 = 0))))) = false := by simp only [SQ, hb20, Bool.true_beq, Bool.false_beq, Bool.true_bne, Bool.false_bne, Bool.not_true, Bool.not_false, hb26, Bool.true_beq, Bool.false_beq, Bool.true_bne, Bool.false_bne, Bool.not_true, Bool.not_false]
                  rw [if_neg (by rw [hx23]; decide)] at kb4
                  have hq23 := (Option.some.inj kb4).symm
                  have hx24 : b4 = false := by simp only [SQ, hb20, Bool.true_beq, Bool.false_beq, Bool.true_bne, Bool.false_bne, Bool.not_true, Bool.not_false, hb26, Bool.true_beq, Bool.false_beq, Bool.true_bne, Bool.false_bne, Bool.not_true, Bool.not_false, hq23]
                  rw [if_neg (by rw [hx24]; decide)] at kb5
                  have hq24 := (Option.some.inj kb5).symm
                  have hx25 : (b5 && (decide ((r6.length : Int) ≤ nv_2))) = false := by simp only [SQ, hb20, Bool.true_beq, Bool.false_beq, Bool.true_bne, Bool.false_bne, Bool.not_true, Bool.not_false, hb26, Bool.true_beq, Bool.false_beq, Bool.true_bne, Bool.false_bne, Bool.not_true, Bool.not_false, hq23, hq24]
                  rw [if_neg (by rw [hx25]; decide)] at kb6
                  have hq25 := (Option.some.inj kb6).symm
                  simp only [SQ, bin_bool (P := Try.prog) ty4 rfl, hb2, hb20, Bool.true_beq, Bool.false_beq, Bool.true_bne, Bool.false_bne, Bool.not_true, Bool.not_false, hb26, hq23, hq24, hq25, n1, n2, n3, n4, n5, n6]
                  refine hold_intro ?_
                  exact ⟨⟨rfl, rfl, by first | rfl | simp only [SQ, hb2, hb20, Bool.true_beq, Bool.false_beq, Bool.true_bne, Bool.false_bne, Bool.not_true, Bool.not_false, hb26, hq23, hq24, hq25, n1, n2, n3, n4, n5, n6]⟩, rfl⟩
                ·
                  rcases Bool.eq_false_or_eq_true (decide (r3 = 0)) with hb27 | hb27
                  ·
                    have hx26 : ((r4 == has_2) && ((has_2 && (decide (r3 = r5))) || ((!has_2) && (decide (r3 = 0))))) = true := by simp only [SQ, hb20, Bool.true_beq, Bool.false_beq, Bool.true_bne, Bool.false_bne, Bool.not_true, Bool.not_false, hb26, Bool.true_beq, Bool.false_beq, Bool.true_bne, Bool.false_bne, Bool.not_true, Bool.not_false, hb27]
                    rw [if_pos hx26] at kb4
                    obtain ⟨r19, kr19, kb4⟩ := bndO kb4
                    obtain ⟨r20, kr20, kb4⟩ := bndO kb4
                    have hq26 := (Option.some.inj kb4).symm
                    rcases Bool.eq_false_or_eq_true (decide (r19 = r20)) with hb28 | hb28
                    ·
                      have hx27 : b4 = true := by simp only [SQ, hb20, Bool.true_beq, Bool.false_beq, Bool.true_bne, Bool.false_bne, Bool.not_true, Bool.not_false, hb26, Bool.true_beq, Bool.false_beq, Bool.true_bne, Bool.false_bne, Bool.not_true, Bool.not_false, hb27, hq26, hb28]
                      rw [if_pos hx27] at kb5
                      obtain ⟨r21, kr21, kb5⟩ := bndO kb5
                      have hq27 := (Option.some.inj kb5).symm
                      rcases Bool.eq_false_or_eq_true (decide (r21 = nv_2)) with hb29 | hb29
                      ·
                        rcases Bool.eq_false_or_eq_true (decide ((r6.length : Int) ≤ nv_2)) with hb30 | hb30
                        ·
                          have hx28 : (b5 && (decide ((r6.length : Int) ≤ nv_2))) = true := by simp only [SQ, hb20, Bool.true_beq, Bool.false_beq, Bool.true_bne, Bool.false_bne, Bool.not_true, Bool.not_false, hb26, Bool.true_beq, Bool.false_beq, Bool.true_bne, Bool.false_bne, Bool.not_true, Bool.not_false, hb27, hq26, hb28, hq27, hb29, hb30]
                          rw [if_pos hx28] at kb6
                          obtain ⟨r22, kr22, kb6⟩ := bndO kb6
                          have hq28 := (Option.some.inj kb6).symm
                          simp only [SQ, bin_bool (P := Try.prog) ty4 rfl, ty26, s23.b 0 rfl, sFnc, hb2, hb20, Bool.true_beq, Bool.false_beq, Bool.true_bne, Bool.false_bne, Bool.not_true, Bool.not_false, hb26, hb27, hq26, hb28, hq27, hb29, hb30, hq28, n1, n2, n3, n4, n5, n6]
                          refine callP (w_ir_Find kr19) ?_
                          simp only [SQ, ty26, s23.b 0 rfl, sFnc, hb2, hb20, Bool.true_beq, Bool.false_beq, Bool.true_bne, Bool.false_bne, Bool.not_true, Bool.not_false, hb26, hb27, hq26, hb28, hq27, hb29, hb30, hq28, n1, n2, n3, n4, n5, n6]
                          refine callP (w_dyehouseref12_Find kr20) ?_
                          simp only [SQ, ty26, s23.b 0 rfl, sFnc, hb2, hb20, Bool.true_beq, Bool.false_beq, Bool.true_bne, Bool.false_bne, Bool.not_true, Bool.not_false, hb26, hb27, hq26, hb28, hq27, hb29, hb30, hq28, n1, n2, n3, n4, n5, n6]
                          refine callP (w_ir_Count kr21) ?_
                          simp only [SQ, len_sim ty64 rfl, hb2, hb20, Bool.true_beq, Bool.false_beq, Bool.true_bne, Bool.false_bne, Bool.not_true, Bool.not_false, hb26, hb27, hq26, hb28, hq27, hb29, hb30, hq28, n1, n2, n3, n4, n5, n6]
                          refine callP (w_dyehouselaw12_works kr22) ?_
                          simp only [SQ, hb2, hb20, Bool.true_beq, Bool.false_beq, Bool.true_bne, Bool.false_bne, Bool.not_true, Bool.not_false, hb26, hb27, hq26, hb28, hq27, hb29, hb30, hq28, n1, n2, n3, n4, n5, n6]
                          refine hold_intro ?_
                          exact ⟨⟨rfl, rfl, by first | rfl | simp only [SQ, hb2, hb20, Bool.true_beq, Bool.false_beq, Bool.true_bne, Bool.false_bne, Bool.not_true, Bool.not_false, hb26, hb27, hq26, hb28, hq27, hb29, hb30, hq28, n1, n2, n3, n4, n5, n6]⟩, rfl⟩
                        ·
                          have hx29 : (b5 && (decide ((r6.length : Int) ≤ nv_2))) = false := by simp only [SQ, hb20, Bool.true_beq, Bool.false_beq, Bool.true_bne, Bool.false_bne, Bool.not_true, Bool.not_false, hb26, Bool.true_beq, Bool.false_beq, Bool.true_bne, Bool.false_bne, Bool.not_true, Bool.not_false, hb27, hq26, hb28, hq27, hb29, hb30]
                          rw [if_neg (by rw [hx29]; decide)] at kb6
                          have hq29 := (Option.some.inj kb6).symm
                          simp only [SQ, bin_bool (P := Try.prog) ty4 rfl, ty26, s23.b 0 rfl, sFnc, hb2, hb20, Bool.true_beq, Bool.false_beq, Bool.true_bne, Bool.false_bne, Bool.not_true, Bool.not_false, hb26, hb27, hq26, hb28, hq27, hb29, hb30, hq29, n1, n2, n3, n4, n5, n6]
                          refine callP (w_ir_Find kr19) ?_
                          simp only [SQ, ty26, s23.b 0 rfl, sFnc, hb2, hb20, Bool.true_beq, Bool.false_beq, Bool.true_bne, Bool.false_bne, Bool.not_true, Bool.not_false, hb26, hb27, hq26, hb28, hq27, hb29, hb30, hq29, n1, n2, n3, n4, n5, n6]
                          refine callP (w_dyehouseref12_Find kr20) ?_
                          simp only [SQ, ty26, s23.b 0 rfl, sFnc, hb2, hb20, Bool.true_beq, Bool.false_beq, Bool.true_bne, Bool.false_bne, Bool.not_true, Bool.not_false, hb26, hb27, hq26, hb28, hq27, hb29, hb30, hq29, n1, n2, n3, n4, n5, n6]
                          refine callP (w_ir_Count kr21) ?_
                          simp only [SQ, len_sim ty64 rfl, hb2, hb20, Bool.true_beq, Bool.false_beq, Bool.true_bne, Bool.false_bne, Bool.not_true, Bool.not_false, hb26, hb27, hq26, hb28, hq27, hb29, hb30, hq29, n1, n2, n3, n4, n5, n6]
                          refine hold_intro ?_
                          exact ⟨⟨rfl, rfl, by first | rfl | simp only [SQ, hb2, hb20, Bool.true_beq, Bool.false_beq, Bool.true_bne, Bool.false_bne, Bool.not_true, Bool.not_false, hb26, hb27, hq26, hb28, hq27, hb29, hb30, hq29, n1, n2, n3, n4, n5, n6]⟩, rfl⟩
                      ·
                        have hx30 : (b5 && (decide ((r6.length : Int) ≤ nv_2))) = false := by simp only [SQ, hb20, Bool.true_beq, Bool.false_beq, Bool.true_bne, Bool.false_bne, Bool.not_true, Bool.not_false, hb26, Bool.true_beq, Bool.false_beq, Bool.true_bne, Bool.false_bne, Bool.not_true, Bool.not_false, hb27, hq26, hb28, hq27, hb29]
                        rw [if_neg (by rw [hx30]; decide)] at kb6
                        have hq30 := (Option.some.inj kb6).symm
                        simp only [SQ, bin_bool (P := Try.prog) ty4 rfl, ty26, s23.b 0 rfl, sFnc, hb2, hb20, Bool.true_beq, Bool.false_beq, Bool.true_bne, Bool.false_bne, Bool.not_true, Bool.not_false, hb26, hb27, hq26, hb28, hq27, hb29, hq30, n1, n2, n3, n4, n5, n6]
                        refine callP (w_ir_Find kr19) ?_
                        simp only [SQ, ty26, s23.b 0 rfl, sFnc, hb2, hb20, Bool.true_beq, Bool.false_beq, Bool.true_bne, Bool.false_bne, Bool.not_true, Bool.not_false, hb26, hb27, hq26, hb28, hq27, hb29, hq30, n1, n2, n3, n4, n5, n6]
                        refine callP (w_dyehouseref12_Find kr20) ?_
                        simp only [SQ, ty26, s23.b 0 rfl, sFnc, hb2, hb20, Bool.true_beq, Bool.false_beq, Bool.true_bne, Bool.false_bne, Bool.not_true, Bool.not_false, hb26, hb27, hq26, hb28, hq27, hb29, hq30, n1, n2, n3, n4, n5, n6]
                        refine callP (w_ir_Count kr21) ?_
                        simp only [SQ, hb2, hb20, Bool.true_beq, Bool.false_beq, Bool.true_bne, Bool.false_bne, Bool.not_true, Bool.not_false, hb26, hb27, hq26, hb28, hq27, hb29, hq30, n1, n2, n3, n4, n5, n6]
                        refine hold_intro ?_
                        exact ⟨⟨rfl, rfl, by first | rfl | simp only [SQ, hb2, hb20, Bool.true_beq, Bool.false_beq, Bool.true_bne, Bool.false_bne, Bool.not_true, Bool.not_false, hb26, hb27, hq26, hb28, hq27, hb29, hq30, n1, n2, n3, n4, n5, n6]⟩, rfl⟩
                    ·
                      have hx31 : b4 = false := by simp only [SQ, hb20, Bool.true_beq, Bool.false_beq, Bool.true_bne, Bool.false_bne, Bool.not_true, Bool.not_false, hb26, Bool.true_beq, Bool.false_beq, Bool.true_bne, Bool.false_bne, Bool.not_true, Bool.not_false, hb27, hq26, hb28]
                      rw [if_neg (by rw [hx31]; decide)] at kb5
                      have hq31 := (Option.some.inj kb5).symm
                      have hx32 : (b5 && (decide ((r6.length : Int) ≤ nv_2))) = false := by simp only [SQ, hb20, Bool.true_beq, Bool.false_beq, Bool.true_bne, Bool.false_bne, Bool.not_true, Bool.not_false, hb26, Bool.true_beq, Bool.false_beq, Bool.true_bne, Bool.false_bne, Bool.not_true, Bool.not_false, hb27, hq26, hb28, hq31]
                      rw [if_neg (by rw [hx32]; decide)] at kb6
                      have hq32 := (Option.some.inj kb6).symm
                      simp only [SQ, bin_bool (P := Try.prog) ty4 rfl, ty26, s23.b 0 rfl, sFnc, hb2, hb20, Bool.true_beq, Bool.false_beq, Bool.true_bne, Bool.false_bne, Bool.not_true, Bool.not_false, hb26, hb27, hq26, hb28, hq31, hq32, n1, n2, n3, n4, n5, n6]
                      refine callP (w_ir_Find kr19) ?_
                      simp only [SQ, ty26, s23.b 0 rfl, sFnc, hb2, hb20, Bool.true_beq, Bool.false_beq, Bool.true_bne, Bool.false_bne, Bool.not_true, Bool.not_false, hb26, hb27, hq26, hb28, hq31, hq32, n1, n2, n3, n4, n5, n6]
                      refine callP (w_dyehouseref12_Find kr20) ?_
                      simp only [SQ, hb2, hb20, Bool.true_beq, Bool.false_beq, Bool.true_bne, Bool.false_bne, Bool.not_true, Bool.not_false, hb26, hb27, hq26, hb28, hq31, hq32, n1, n2, n3, n4, n5, n6]
                      refine hold_intro ?_
                      exact ⟨⟨rfl, rfl, by first | rfl | simp only [SQ, hb2, hb20, Bool.true_beq, Bool.false_beq, Bool.true_bne, Bool.false_bne, Bool.not_true, Bool.not_false, hb26, hb27, hq26, hb28, hq31, hq32, n1, n2, n3, n4, n5, n6]⟩, rfl⟩
                  ·
                    have hx33 : ((r4 == has_2) && ((has_2 && (decide (r3 = r5))) || ((!has_2) && (decide (r3 = 0))))) = false := by simp only [SQ, hb20, Bool.true_beq, Bool.false_beq, Bool.true_bne, Bool.false_bne, Bool.not_true, Bool.not_false, hb26, Bool.true_beq, Bool.false_beq, Bool.true_bne, Bool.false_bne, Bool.not_true, Bool.not_false, hb27]
                    rw [if_neg (by rw [hx33]; decide)] at kb4
                    have hq33 := (Option.some.inj kb4).symm
                    have hx34 : b4 = false := by simp only [SQ, hb20, Bool.true_beq, Bool.false_beq, Bool.true_bne, Bool.false_bne, Bool.not_true, Bool.not_false, hb26, Bool.true_beq, Bool.false_beq, Bool.true_bne, Bool.false_bne, Bool.not_true, Bool.not_false, hb27, hq33]
                    rw [if_neg (by rw [hx34]; decide)] at kb5
                    have hq34 := (Option.some.inj kb5).symm
                    have hx35 : (b5 && (decide ((r6.length : Int) ≤ nv_2))) = false := by simp only [SQ, hb20, Bool.true_beq, Bool.false_beq, Bool.true_bne, Bool.false_bne, Bool.not_true, Bool.not_false, hb26, Bool.true_beq, Bool.false_beq, Bool.true_bne, Bool.false_bne, Bool.not_true, Bool.not_false, hb27, hq33, hq34]
                    rw [if_neg (by rw [hx35]; decide)] at kb6
                    have hq35 := (Option.some.inj kb6).symm
                    simp only [SQ, bin_bool (P := Try.prog) ty4 rfl, hb2, hb20, Bool.true_beq, Bool.false_beq, Bool.true_bne, Bool.false_bne, Bool.not_true, Bool.not_false, hb26, hb27, hq33, hq34, hq35, n1, n2, n3, n4, n5, n6]
                    refine hold_intro ?_
                    exact ⟨⟨rfl, rfl, by first | rfl | simp only [SQ, hb2, hb20, Bool.true_beq, Bool.false_beq, Bool.true_bne, Bool.false_bne, Bool.not_true, Bool.not_false, hb26, hb27, hq33, hq34, hq35, n1, n2, n3, n4, n5, n6]⟩, rfl⟩
            · rintro a17 _ ⟨f17, rfl⟩
              refine U_fi f17 ?_
              refine U_ret ?_
              replace h := Option.some.inj h
              subst h
              refine ⟨.bool b6, by simp only [ires, iress, Try.results8, SQ, List.toList_toArray, hb2, n1, n2, n3, n4, n5, n6], ?_⟩
              exact .cl (closed_bool _)

end Go.Proofs.Ytodafoajkajnkaa.IL
