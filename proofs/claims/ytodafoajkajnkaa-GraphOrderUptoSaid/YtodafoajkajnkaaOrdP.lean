/- Functions of the program as pure ones. Printed by tq.py. -/
import Derived.Test.YtodafoajkajnkaaPD
import Derived.Test.YtodafoajkajnkaaPM
set_option linter.unusedVariables false
namespace Go.Proofs.Ytodafoajkajnkaa.PL
open Go

def p_dyehouseref12_Many_b1 (fuel : Nat) (d_1 : Drf) (i1 : Int) (nv_1 : Int) : Option Int :=
  (idx d_1.blocks i1).bind fun x1 =>
  some (IntKind.wrap .i64 ((IntKind.wrap .i64 (nv_1 + 1)) + (x1.code.length : Int)))

def p_dyehouseref12_Many (fuel : Nat) (d_1 : Drf) : Option Bool :=
  (toN 0 (d_1.blocks.length : Int) (fun i s => p_dyehouseref12_Many_b1 fuel d_1 i s) 0).bind fun nv_2 =>
  some ((decide (9 < (d_1.blocks.length : Int))) || (decide (60 < nv_2)))

def p_dyehouselaw19_works_1_v2 (fuel : Nat) (l_1 : List ByteArray) : Option ((List Ins)) :=
  some ([(⟨21, (⟨0, 0, 0, 0⟩ : Opd), ([] : List Opd), (⟨#[]⟩ : ByteArray), 0, l_1, ([] : List Int)⟩ : Ins)] : List Ins)

def p_op_Last (fuel : Nat) (op_1 : Int) : Option Bool :=
  some ((decide (20 ≤ op_1)) && (decide (op_1 ≤ 23)))

def p_graph_last (fuel : Nat) (b_1 : Bl) : Option (Ins × Bool) :=
  if decide ((b_1.code.length : Int) = 0) = true then
    some ((⟨0, (⟨0, 0, 0, 0⟩ : Opd), [], (⟨#[]⟩ : ByteArray), 0, [], []⟩ : Ins), false)
  else
    (idx b_1.code (IntKind.wrap .i64 ((b_1.code.length : Int) - 1))).bind fun x1 =>
    (p_op_Last fuel x1.op).bind fun r1 =>
    some (x1, r1)

def p_ir_Find_1 (fuel : Nat) (b_1 : Bl) (p_1 : ByteArray) : Option Bool :=
  some (decide (b_1.label = p_1))

def p_slices_IndexFunc_api_Block_api_Block_at_ir_Find_1_b1 (fuel : Nat) (s_1 : List Bl) (w1 : ByteArray) (x_1 : Int) : Option (Ex Int Int) :=
  if decide (x_1 < (s_1.length : Int)) = true then
    (idx s_1 x_1).bind fun x1 =>
    (p_ir_Find_1 fuel x1 w1).bind fun r1 =>
    if r1 = true then
      some (.r (x_1))
    else
      some (.n (IntKind.wrap .i64 (x_1 + 1)))
  else
    some (.b x_1)

def p_slices_IndexFunc_api_Block_api_Block_at_ir_Find_1 (fuel : Nat) (s_1 : List Bl) (w1 : ByteArray) : Option Int :=
  bindE (loopE fuel (fun s => p_slices_IndexFunc_api_Block_api_Block_at_ir_Find_1_b1 fuel s_1 w1 s) 0) (fun x_2 =>
  some (-1)) some

def p_ir_Find (fuel : Nat) (f_1 : Fnc) (label_1 : ByteArray) : Option Int :=
  (p_slices_IndexFunc_api_Block_api_Block_at_ir_Find_1 fuel f_1.blocks label_1).bind fun r1 =>
  some r1

def p_slices_Index_int_int_b1 (fuel : Nat) (s_1 : List Int) (v_1 : Int) (x_1 : Int) : Option (Ex Int Int) :=
  if decide (x_1 < (s_1.length : Int)) = true then
    (idx s_1 x_1).bind fun x1 =>
    if decide (v_1 = x1) = true then
      some (.r (x_1))
    else
      some (.n (IntKind.wrap .i64 (x_1 + 1)))
  else
    some (.b x_1)

def p_slices_Index_int_int (fuel : Nat) (s_1 : List Int) (v_1 : Int) : Option Int :=
  bindE (loopE fuel (fun s => p_slices_Index_int_int_b1 fuel s_1 v_1 s) 0) (fun x_2 =>
  some (-1)) some

def p_slices_Contains_int_int (fuel : Nat) (s_1 : List Int) (v_1 : Int) : Option Bool :=
  (p_slices_Index_int_int fuel s_1 v_1).bind fun r1 =>
  some (decide (0 ≤ r1))

def p_graph_New_b2 (fuel : Nat) (f_1 : Fnc) (x_1 : Int) (r1 : Ins) (c7 : List (List Int)) (c8 : List (List Int)) (x_3 : Int) : Option (Ex ((List (List Int)) × (List (List Int)) × Int) ((List (List Int)) × (List (List Int)))) :=
  if decide (x_3 < (r1.labels.length : Int)) = true then
    ((idx r1.labels x_3).bind fun x2 =>
    (p_ir_Find fuel f_1 x2).bind fun r3 =>
    (if (decide (0 ≤ r3)) = true then (idx c7 x_1).bind fun x3 =>
    (p_slices_Contains_int_int fuel x3 r3).bind fun r5 =>
    some (!r5) else some false).bind fun b1 =>
    if b1 = true then
      (idx c7 x_1).bind fun x4 =>
      (app x4 ([r3] : List Int)).bind fun l3 =>
      (setI c7 x_1 l3).bind fun l4 =>
      (idx c8 r3).bind fun x5 =>
      (app x5 ([x_1] : List Int)).bind fun l5 =>
      (setI c8 r3 l5).bind fun l6 =>
      some (l4, l6)
    else
      some (c7, c8) : Option ((List (List Int)) × (List (List Int)))).bind fun (c11, c12) =>
    some (.n (c11, c12, IntKind.wrap .i64 (x_3 + 1)))
  else
    some (.b (c7, c8, x_3))

def p_graph_New_b1 (fuel : Nat) (f_1 : Fnc) (x_1 : Int) (c1 : List (List Int)) (c2 : List (List Int)) : Option (Ex (Int × (List (List Int)) × (List (List Int))) graph_Graph) :=
  if decide (x_1 < (f_1.blocks.length : Int)) = true then
    ((idx f_1.blocks x_1).bind fun x1 =>
    (p_graph_last fuel x1).bind fun (r1, r2) =>
    if (!r2) = true then
      some (c1, c2)
    else
      bindE (loopE fuel (fun s => p_graph_New_b2 fuel f_1 x_1 r1 s.1 s.2.1 s.2.2) (c1, c2, 0)) (fun (c9, c10, x_4) =>
      some (c9, c10)) some : Option ((List (List Int)) × (List (List Int)))).bind fun (c5, c6) =>
    some (.n (IntKind.wrap .i64 (x_1 + 1), c5, c6))
  else
    some (.b (x_1, c1, c2))

def p_graph_New (fuel : Nat) (f_1 : Fnc) : Option graph_Graph :=
  (mk (f_1.blocks.length : Int) ([] : List Int)).bind fun l1 =>
  (mk (f_1.blocks.length : Int) ([] : List Int)).bind fun l2 =>
  bindE (loopE fuel (fun s => p_graph_New_b1 fuel f_1 s.1 s.2.1 s.2.2) (0, l1, l2)) (fun (x_2, c3, c4) =>
  some (⟨c3, c4⟩ : graph_Graph)) some

def p_graph_Graph_Len (fuel : Nat) (g_1 : graph_Graph) : Option Int :=
  some (g_1.succ.length : Int)

def p_slices_Clone_int_int (fuel : Nat) (s : List Int) : Option (List Int) := app [] s

def p_graph_Graph_list (fuel : Nat) (g_1 : graph_Graph) (i_1 : Int) (which_1 : Int) : Option ((List Int)) :=
  (if (decide (i_1 < 0)) = true then some true else (p_graph_Graph_Len fuel g_1).bind fun r1 =>
  some (decide (r1 ≤ i_1))).bind fun b1 =>
  if b1 = true then
    some ([] : List Int)
  else
    (ix2 which_1).bind fun c1 =>
    (idx ((⟨g_1.succ, g_1.pred⟩ : A2 (List (List Int))).at c1) i_1).bind fun x1 =>
    (p_slices_Clone_int_int fuel x1).bind fun r2 =>
    some r2

def p_graph_Graph_Succ (fuel : Nat) (g_1 : graph_Graph) (i_1 : Int) : Option ((List Int)) :=
  (p_graph_Graph_list fuel g_1 i_1 0).bind fun r1 =>
  some r1

def p_dyehouseref12_Ints_b1 (fuel : Nat) (av_1 : List Int) (b_1 : List Int) (i1 : Int) : Option (Ex Unit Bool) :=
  (idx av_1 i1).bind fun x1 =>
  (idx b_1 i1).bind fun x2 =>
  if decide (x1 ≠ x2) = true then
    some (.r (false))
  else
    some (.n ())

def p_dyehouseref12_Ints (fuel : Nat) (av_1 : List Int) (b_1 : List Int) : Option Bool :=
  if decide ((av_1.length : Int) ≠ (b_1.length : Int)) = true then
    some false
  else
    bindE (toE 0 (av_1.length : Int) (fun i _ => p_dyehouseref12_Ints_b1 fuel av_1 b_1 i) ()) (fun _ =>
    some true) some

def p_graph_Graph_Pred (fuel : Nat) (g_1 : graph_Graph) (i_1 : Int) : Option ((List Int)) :=
  (p_graph_Graph_list fuel g_1 i_1 1).bind fun r1 =>
  some r1

def p_bits_Set_in (fuel : Nat) (s_1 : bits_Set) (i_1 : Int) : Option Bool :=
  some ((decide (0 ≤ i_1)) && (decide (i_1 < s_1.n)))

def p_bits_Set_Has (fuel : Nat) (s_1 : bits_Set) (i_1 : Int) : Option Bool :=
  (p_bits_Set_in fuel s_1 i_1).bind fun r1 =>
  (if r1 = true then (idx s_1.words (IntKind.wrap .i64 (Int.tdiv i_1 64))).bind fun x1 =>
  (shr .u64 x1 (Int.tmod i_1 64)).bind fun x2 =>
  some (decide ((band .u64 x2 1) = 1)) else some false).bind fun b1 =>
  some b1

def p_bits_New (fuel : Nat) (nv_1 : Int) : Option bits_Set :=
  (mk (IntKind.wrap .i64 (Int.tdiv (IntKind.wrap .i64 ((IntKind.wrap .i64 ((if 0 > nv_1 then 0 else nv_1) + 64)) - 1)) 64)) (0 : Int)).bind fun l1 =>
  some (⟨(if 0 > nv_1 then 0 else nv_1), l1⟩ : bits_Set)

def p_bits_Set_Add (fuel : Nat) (s_1 : bits_Set) (i_1 : Int) : Option (Bool × bits_Set) :=
  (p_bits_Set_in fuel s_1 i_1).bind fun r1 =>
  (if (!r1) = true then some true else (p_bits_Set_Has fuel s_1 i_1).bind fun r2 =>
  some r2).bind fun b1 =>
  if b1 = true then
    some (false, s_1)
  else
    (idx s_1.words (IntKind.wrap .i64 (Int.tdiv i_1 64))).bind fun x1 =>
    (shl .u64 1 (Int.tmod i_1 64)).bind fun x2 =>
    (setI s_1.words (IntKind.wrap .i64 (Int.tdiv i_1 64)) (bor .u64 x1 x2)).bind fun l1 =>
    some (true, (⟨s_1.n, l1⟩ : bits_Set))

def p_graph_Graph_post_1 (fuel : Nat) (i_1 : Int) (p_1 : bits_Set) (p_2 : List (A2 Int)) : Option (bits_Set × (List (A2 Int))) :=
  (p_bits_Set_Add fuel p_1 i_1).bind fun (r1, m1) =>
  if r1 = true then
    (app p_2 ([(⟨i_1, 0⟩ : A2 Int)] : List (A2 Int))).bind fun l1 =>
    some (m1, l1)
  else
    some (m1, p_2)

def p_graph_Graph_post_b1 (fuel : Nat) (g_1 : graph_Graph) (out_1 : List Int) (steps_1 : List (A2 Int)) (c1 : bits_Set) : Option (Ex ((List Int) × (List (A2 Int)) × bits_Set) ((List Int))) :=
  if decide (0 < (steps_1.length : Int)) = true then
    (idx steps_1 (IntKind.wrap .i64 ((steps_1.length : Int) - 1))).bind fun x1 =>
    (idx g_1.succ x1.a0).bind fun x2 =>
    if decide (x1.a1 = (x2.length : Int)) = true then
      (sli steps_1 0 (IntKind.wrap .i64 ((steps_1.length : Int) - 1))).bind fun l1 =>
      (app out_1 ([x1.a0] : List Int)).bind fun l2 =>
      some (.n (l2, l1, c1))
    else
      (setI steps_1 (IntKind.wrap .i64 ((steps_1.length : Int) - 1)) (⟨x1.a0, IntKind.wrap .i64 (x1.a1 + 1)⟩ : A2 Int)).bind fun l3 =>
      (idx x2 x1.a1).bind fun x3 =>
      (p_graph_Graph_post_1 fuel x3 c1 l3).bind fun (m4, m5) =>
      some (.n (out_1, m5, m4))
  else
    some (.b (out_1, steps_1, c1))

def p_graph_Graph_post (fuel : Nat) (g_1 : graph_Graph) : Option ((List Int)) :=
  (p_graph_Graph_Len fuel g_1).bind fun r1 =>
  (p_bits_New fuel r1).bind fun r2 =>
  (p_graph_Graph_post_1 fuel 0 r2 ([] : List (A2 Int))).bind fun (m1, m2) =>
  bindE (loopE fuel (fun s => p_graph_Graph_post_b1 fuel g_1 s.1 s.2.1 s.2.2) (([] : List Int), m2, m1)) (fun (out_2, steps_2, c2) =>
  some out_2) some

def p_slices_Reverse_int_int_b1 (fuel : Nat) (s_2 : List Int) (i_1 : Int) (j_1 : Int) : Option (Ex ((List Int) × Int × Int) ((List Int))) :=
  if decide (i_1 < j_1) = true then
    (idx s_2 j_1).bind fun x1 =>
    (idx s_2 i_1).bind fun x2 =>
    (setI s_2 i_1 x1).bind fun l1 =>
    (idx l1 j_1).bind fun x3 =>
    (setI l1 j_1 x2).bind fun l2 =>
    some (.n (l2, IntKind.wrap .i64 (i_1 + 1), IntKind.wrap .i64 (j_1 - 1)))
  else
    some (.b (s_2, i_1, j_1))

def p_slices_Reverse_int_int (fuel : Nat) (s_1 : List Int) : Option ((List Int)) :=
  bindE (loopE fuel (fun s => p_slices_Reverse_int_int_b1 fuel  s.1 s.2.1 s.2.2) (s_1, 0, IntKind.wrap .i64 ((s_1.length : Int) - 1))) (fun (s_3, i_2, j_2) =>
  some s_3) some

def p_graph_Graph_Order (fuel : Nat) (g_1 : graph_Graph) : Option ((List Int)) :=
  (p_graph_Graph_Len fuel g_1).bind fun r1 =>
  if decide (r1 = 0) = true then
    some ([] : List Int)
  else
    (p_graph_Graph_post fuel g_1).bind fun r2 =>
    (p_slices_Reverse_int_int fuel r2).bind fun m1 =>
    some m1

def p_bits_Of_b1 (fuel : Nat) (l_1 : List Int) (x_1 : Int) (s_1 : bits_Set) : Option (Ex (Int × bits_Set) bits_Set) :=
  if decide (x_1 < (l_1.length : Int)) = true then
    (idx l_1 x_1).bind fun x1 =>
    (p_bits_Set_Add fuel s_1 x1).bind fun (r2, m2) =>
    some (.n (IntKind.wrap .i64 (x_1 + 1), m2))
  else
    some (.b (x_1, s_1))

def p_bits_Of (fuel : Nat) (nv_1 : Int) (l_1 : List Int) : Option bits_Set :=
  (p_bits_New fuel nv_1).bind fun r1 =>
  bindE (loopE fuel (fun s => p_bits_Of_b1 fuel l_1 s.1 s.2) (0, r1)) (fun (x_2, s_2) =>
  some s_2) some

def p_graph_Graph_Reached (fuel : Nat) (g_1 : graph_Graph) : Option bits_Set :=
  (p_graph_Graph_Len fuel g_1).bind fun r1 =>
  (p_graph_Graph_Order fuel g_1).bind fun r2 =>
  (p_bits_Of fuel r1 r2).bind fun r3 =>
  some r3

def p_math_bits_OnesCount64 (fuel : Nat) (x_1 : Int) : Option Int :=
  (shr .u64 x_1 1).bind fun x1 =>
  (shr .u64 (IntKind.wrap .u64 ((band .u64 x1 6148914691236517205) + (band .u64 x_1 6148914691236517205))) 2).bind fun x2 =>
  (shr .u64 (IntKind.wrap .u64 ((band .u64 x2 3689348814741910323) + (band .u64 (IntKind.wrap .u64 ((band .u64 x1 6148914691236517205) + (band .u64 x_1 6148914691236517205))) 3689348814741910323))) 4).bind fun x3 =>
  (shr .u64 (band .u64 (IntKind.wrap .u64 (x3 + (IntKind.wrap .u64 ((band .u64 x2 3689348814741910323) + (band .u64 (IntKind.wrap .u64 ((band .u64 x1 6148914691236517205) + (band .u64 x_1 6148914691236517205))) 3689348814741910323))))) 1085102592571150095) 8).bind fun x4 =>
  (shr .u64 (IntKind.wrap .u64 ((band .u64 (IntKind.wrap .u64 (x3 + (IntKind.wrap .u64 ((band .u64 x2 3689348814741910323) + (band .u64 (IntKind.wrap .u64 ((band .u64 x1 6148914691236517205) + (band .u64 x_1 6148914691236517205))) 3689348814741910323))))) 1085102592571150095) + x4)) 16).bind fun x5 =>
  (shr .u64 (IntKind.wrap .u64 ((IntKind.wrap .u64 ((band .u64 (IntKind.wrap .u64 (x3 + (IntKind.wrap .u64 ((band .u64 x2 3689348814741910323) + (band .u64 (IntKind.wrap .u64 ((band .u64 x1 6148914691236517205) + (band .u64 x_1 6148914691236517205))) 3689348814741910323))))) 1085102592571150095) + x4)) + x5)) 32).bind fun x6 =>
  some (band .i64 (IntKind.wrap .i64 (IntKind.wrap .u64 ((IntKind.wrap .u64 ((IntKind.wrap .u64 ((band .u64 (IntKind.wrap .u64 (x3 + (IntKind.wrap .u64 ((band .u64 x2 3689348814741910323) + (band .u64 (IntKind.wrap .u64 ((band .u64 x1 6148914691236517205) + (band .u64 x_1 6148914691236517205))) 3689348814741910323))))) 1085102592571150095) + x4)) + x5)) + x6))) 127)

def p_bits_Set_Count_b1 (fuel : Nat) (s_1 : bits_Set) (x_1 : Int) (nv_1 : Int) : Option (Ex (Int × Int) Int) :=
  if decide (x_1 < (s_1.words.length : Int)) = true then
    (idx s_1.words x_1).bind fun x1 =>
    (p_math_bits_OnesCount64 fuel x1).bind fun r1 =>
    some (.n (IntKind.wrap .i64 (x_1 + 1), IntKind.wrap .i64 (nv_1 + r1)))
  else
    some (.b (x_1, nv_1))

def p_bits_Set_Count (fuel : Nat) (s_1 : bits_Set) : Option Int :=
  bindE (loopE fuel (fun s => p_bits_Set_Count_b1 fuel s_1 s.1 s.2) (0, 0)) (fun (x_2, nv_2) =>
  some nv_2) some

def p_slices_Sort_int_int (fuel : Nat) (l : List Int) : Option (List Int) := if l.length ≤ 4294967296 then some (isort l) else none

def p_graph_Graph_Edges_b2 (fuel : Nat) (x_1 : Int) (m2 : List Int) (x_3 : Int) (out_3 : List (A2 Int)) : Option (Ex (Int × (List (A2 Int))) (Ex (Int × (List (A2 Int))) ((List (A2 Int))))) :=
  if decide (x_3 < (m2.length : Int)) = true then
    (idx m2 x_3).bind fun x1 =>
    (app out_3 ([(⟨x_1, x1⟩ : A2 Int)] : List (A2 Int))).bind fun l1 =>
    some (.n (IntKind.wrap .i64 (x_3 + 1), l1))
  else
    some (.b (x_3, out_3))

def p_graph_Graph_Edges_b1 (fuel : Nat) (g_1 : graph_Graph) (r1 : Int) (x_1 : Int) (out_1 : List (A2 Int)) : Option (Ex (Int × (List (A2 Int))) ((List (A2 Int)))) :=
  if decide (x_1 < r1) = true then
    (p_graph_Graph_Succ fuel g_1 x_1).bind fun r2 =>
    (p_slices_Sort_int_int fuel r2).bind fun m2 =>
    bindE (loopE fuel (fun s => p_graph_Graph_Edges_b2 fuel x_1 m2 s.1 s.2) (0, out_1)) (fun (x_4, out_4) =>
    some (.n (IntKind.wrap .i64 (x_1 + 1), out_4))) some
  else
    some (.b (x_1, out_1))

def p_graph_Graph_Edges (fuel : Nat) (g_1 : graph_Graph) : Option ((List (A2 Int))) :=
  (p_graph_Graph_Len fuel g_1).bind fun r1 =>
  bindE (loopE fuel (fun s => p_graph_Graph_Edges_b1 fuel g_1 r1 s.1 s.2) (0, ([] : List (A2 Int)))) (fun (x_2, out_2) =>
  some out_2) some

def p_graph_Graph_Away_1 (fuel : Nat) (i_1 : Int) (p_1 : Int) (p_2 : bits_Set) (p_3 : List Int) : Option (bits_Set × (List Int)) :=
  (if (decide (i_1 ≠ p_1)) = true then (p_bits_Set_Add fuel p_2 i_1).bind fun (r1, m1) =>
  some (r1, m1) else some (false, p_2)).bind fun (b1, c4) =>
  if b1 = true then
    (app p_3 ([i_1] : List Int)).bind fun l1 =>
    some (c4, l1)
  else
    some (c4, p_3)

def p_graph_Graph_Away_b2 (fuel : Nat) (without_1 : Int) (r3 : List Int) (x_1 : Int) (out_3 : bits_Set) (wait_3 : List Int) : Option (Ex (Int × bits_Set × (List Int)) (Ex (bits_Set × (List Int)) bits_Set)) :=
  if decide (x_1 < (r3.length : Int)) = true then
    (idx r3 x_1).bind fun x2 =>
    (p_graph_Graph_Away_1 fuel x2 without_1 out_3 wait_3).bind fun (m5, m6) =>
    some (.n (IntKind.wrap .i64 (x_1 + 1), m5, m6))
  else
    some (.b (x_1, out_3, wait_3))

def p_graph_Graph_Away_b1 (fuel : Nat) (g_1 : graph_Graph) (without_1 : Int) (out_1 : bits_Set) (wait_1 : List Int) : Option (Ex (bits_Set × (List Int)) bits_Set) :=
  if decide (0 < (wait_1.length : Int)) = true then
    (idx wait_1 (IntKind.wrap .i64 ((wait_1.length : Int) - 1))).bind fun x1 =>
    (sli wait_1 0 (IntKind.wrap .i64 ((wait_1.length : Int) - 1))).bind fun l1 =>
    (p_graph_Graph_Pred fuel g_1 x1).bind fun r3 =>
    bindE (loopE fuel (fun s => p_graph_Graph_Away_b2 fuel without_1 r3 s.1 s.2.1 s.2.2) (0, out_1, l1)) (fun (x_2, out_4, wait_4) =>
    some (.n (out_4, wait_4))) some
  else
    some (.b (out_1, wait_1))

def p_graph_Graph_Away (fuel : Nat) (g_1 : graph_Graph) (tov_1 : Int) (without_1 : Int) : Option bits_Set :=
  (p_graph_Graph_Len fuel g_1).bind fun r1 =>
  (p_bits_New fuel r1).bind fun r2 =>
  (p_graph_Graph_Away_1 fuel tov_1 without_1 r2 ([] : List Int)).bind fun (m1, m2) =>
  bindE (loopE fuel (fun s => p_graph_Graph_Away_b1 fuel g_1 without_1 s.1 s.2) (m1, m2)) (fun (out_2, wait_2) =>
  some out_2) some

def p_dyehouselaw19_works (fuel : Nat) : Option Bool :=
  (p_dyehouselaw19_works_1_v2 fuel ([(⟨#[99]⟩ : ByteArray), (⟨#[98]⟩ : ByteArray), (⟨#[99]⟩ : ByteArray)] : List ByteArray)).bind fun r1 =>
  (p_dyehouselaw19_works_1_v2 fuel ([(⟨#[100]⟩ : ByteArray), (⟨#[98]⟩ : ByteArray)] : List ByteArray)).bind fun r2 =>
  (p_dyehouselaw19_works_1_v2 fuel ([(⟨#[100]⟩ : ByteArray)] : List ByteArray)).bind fun r3 =>
  (p_dyehouselaw19_works_1_v2 fuel ([(⟨#[100]⟩ : ByteArray)] : List ByteArray)).bind fun r4 =>
  (p_graph_New fuel (⟨false, (⟨#[]⟩ : ByteArray), [], [], ([(⟨(⟨#[97]⟩ : ByteArray), false, [], r1⟩ : Bl), (⟨(⟨#[98]⟩ : ByteArray), false, [], r2⟩ : Bl), (⟨(⟨#[99]⟩ : ByteArray), false, [], r3⟩ : Bl), (⟨(⟨#[100]⟩ : ByteArray), false, [], []⟩ : Bl), (⟨(⟨#[101]⟩ : ByteArray), false, [], r4⟩ : Bl)] : List Bl)⟩ : Fnc)).bind fun r5 =>
  (p_graph_Graph_Succ fuel r5 0).bind fun r6 =>
  (p_dyehouseref12_Ints fuel r6 ([2, 1] : List Int)).bind fun r7 =>
  (if r7 = true then (p_graph_Graph_Pred fuel r5 3).bind fun r8 =>
  (p_dyehouseref12_Ints fuel r8 ([1, 2, 4] : List Int)).bind fun r9 =>
  some r9 else some false).bind fun b1 =>
  (if b1 = true then (p_graph_Graph_Order fuel r5).bind fun r10 =>
  (p_dyehouseref12_Ints fuel r10 ([0, 1, 2, 3] : List Int)).bind fun r11 =>
  some r11 else some false).bind fun b2 =>
  (if b2 = true then (p_graph_Graph_Reached fuel r5).bind fun r12 =>
  (p_bits_Set_Count fuel r12).bind fun r13 =>
  some (decide (r13 = 4)) else some false).bind fun b3 =>
  (if b3 = true then (p_graph_Graph_Edges fuel r5).bind fun r14 =>
  some (decide ((r14.length : Int) = 6)) else some false).bind fun b4 =>
  (if b4 = true then (p_graph_Graph_Len fuel r5).bind fun r15 =>
  some (decide (r15 = 5)) else some false).bind fun b5 =>
  (if b5 = true then (p_graph_Graph_Away fuel r5 3 1).bind fun r16 =>
  (p_bits_Set_Count fuel r16).bind fun r17 =>
  some (decide (r17 = 4)) else some false).bind fun b6 =>
  some b6

def p_dyehouseref12_vreg (fuel : Nat) (v_1 : Int) : Option Opd :=
  some (⟨1, 0, v_1, 0⟩ : Opd)

def p_dyehouseref12_imm (fuel : Nat) (nv_1 : Int) : Option Opd :=
  some (⟨4, 0, nv_1, 0⟩ : Opd)

def p_dyehouseref12_In_b1 (fuel : Nat) (l_1 : List Int) (nv_1 : Int) (i1 : Int) : Option (Ex Unit Bool) :=
  (idx l_1 i1).bind fun x1 =>
  if decide (x1 = nv_1) = true then
    some (.r (true))
  else
    some (.n ())

def p_dyehouseref12_In (fuel : Nat) (l_1 : List Int) (nv_1 : Int) : Option Bool :=
  bindE (toE 0 (l_1.length : Int) (fun i _ => p_dyehouseref12_In_b1 fuel l_1 nv_1 i) ()) (fun _ =>
  some false) some

def p_dyehouseref12_maker_use (fuel : Nat) (m_1 : dyehouseref12_maker) (classv_1 : Int) (k_1 : Int) : Option Opd :=
  (ix2 classv_1).bind fun c1 =>
  (rem (IntKind.wrap .i64 k_1) ((m_1.ids.at c1).length : Int)).bind fun x1 =>
  (idx (m_1.ids.at c1) x1).bind fun x2 =>
  ((p_dyehouseref12_In fuel m_1.has x2).bind fun r1 =>
  if (!r1) = true then
    (idx (m_1.ids.at c1) 0).bind fun x3 =>
    some x3
  else
    some x2 : Option Int).bind fun v_1 =>
  (p_dyehouseref12_vreg fuel v_1).bind fun r2 =>
  some r2

def p_dyehouseref12_label (fuel : Nat) (i_1 : Int) : Option ByteArray :=
  if decide (i_1 = 0) = true then
    some (⟨#[101, 110, 116, 114, 121]⟩ : ByteArray)
  else
    (bsli (⟨#[48, 49, 50, 51, 52, 53, 54, 55, 56, 57]⟩ : ByteArray) i_1 (IntKind.wrap .i64 (i_1 + 1))).bind fun s1 =>
    (sadd (⟨#[98]⟩ : ByteArray) s1).bind fun s2 =>
    some s2

def p_dyehouseref12_goal (fuel : Nat) (k_1 : Int) (nv_1 : Int) : Option ByteArray :=
  (rem (IntKind.wrap .i64 k_1) (IntKind.wrap .i64 (nv_1 - 1))).bind fun x1 =>
  (p_dyehouseref12_label fuel (IntKind.wrap .i64 (1 + x1))).bind fun r1 =>
  some r1

def p_dyehouseref12_maker_give (fuel : Nat) (m_1 : dyehouseref12_maker) (classv_1 : Int) (k_1 : Int) : Option (Opd × dyehouseref12_maker) :=
  (ix2 classv_1).bind fun c2 =>
  (rem (IntKind.wrap .i64 k_1) ((m_1.ids.at c2).length : Int)).bind fun x1 =>
  (idx (m_1.ids.at c2) x1).bind fun x2 =>
  ((p_dyehouseref12_In fuel m_1.has x2).bind fun r1 =>
  if (!r1) = true then
    (app m_1.has ([x2] : List Int)).bind fun l1 =>
    some l1
  else
    some m_1.has : Option ((List Int))).bind fun c3 =>
  (p_dyehouseref12_vreg fuel x2).bind fun r2 =>
  some (r2, (⟨m_1.f, m_1.ids, c3⟩ : dyehouseref12_maker))

def p_dyehouseref12_maker_instr_b1 (fuel : Nat) (m_1 : dyehouseref12_maker) (d_1 : DIns) (i1 : Int) (c11 : List Opd) : Option ((List Opd)) :=
  if decide ((Int.tmod (IntKind.wrap .i64 ((IntKind.wrap .i64 d_1.n) + i1)) 3) = 0) = true then
    (p_dyehouseref12_imm fuel (IntKind.wrap .i64 d_1.n)).bind fun r8 =>
    (app c11 ([r8] : List Opd)).bind fun l2 =>
    some l2
  else
    (p_dyehouseref12_maker_use fuel m_1 0 (IntKind.wrap .u8 (d_1.a + (IntKind.wrap .u8 ((IntKind.wrap .u8 i1) * d_1.b))))).bind fun r9 =>
    (app c11 ([r9] : List Opd)).bind fun l3 =>
    some l3

def p_dyehouseref12_maker_instr (fuel : Nat) (m_1 : dyehouseref12_maker) (d_1 : DIns) : Option (Ins × dyehouseref12_maker) :=
  (if decide ((IntKind.wrap .i64 (1 + (Int.tmod (IntKind.wrap .i64 d_1.op) 19))) = 16) = true then
    (p_dyehouseref12_imm fuel (IntKind.wrap .i64 d_1.n)).bind fun r1 =>
    (if decide (0 < (Int.tmod d_1.b 3)) = true then
      (p_dyehouseref12_maker_use fuel m_1 (IntKind.wrap .i64 ((IntKind.wrap .i64 (Int.tmod d_1.b 3)) - 1)) d_1.a).bind fun r2 =>
      (idx ([r1] : List Opd) 0).bind fun x1 =>
      (setI ([r1] : List Opd) 0 r2).bind fun l1 =>
      some l1
    else
      some ([r1] : List Opd) : Option ((List Opd))).bind fun c10 =>
    (p_dyehouseref12_maker_give fuel m_1 (Int.tmod (IntKind.wrap .i64 d_1.d) 2) (IntKind.wrap .u8 (Int.tdiv d_1.d 2))).bind fun (r3, m1) =>
    some (r3.kind, r3.cls, r3.n, r3.tag, c10, (⟨#[]⟩ : ByteArray), 0, m1)
  else
    if decide ((IntKind.wrap .i64 (1 + (Int.tmod (IntKind.wrap .i64 d_1.op) 19))) = 17) = true then
      (p_dyehouseref12_maker_use fuel m_1 1 d_1.a).bind fun r4 =>
      (p_dyehouseref12_maker_give fuel m_1 0 d_1.d).bind fun (r5, m2) =>
      some (r5.kind, r5.cls, r5.n, r5.tag, ([r4] : List Opd), (⟨#[]⟩ : ByteArray), Int.tmod (IntKind.wrap .i64 d_1.n) 8, m2)
    else
      if decide ((IntKind.wrap .i64 (1 + (Int.tmod (IntKind.wrap .i64 d_1.op) 19))) = 18) = true then
        (p_dyehouseref12_maker_use fuel m_1 0 d_1.b).bind fun r6 =>
        (p_dyehouseref12_maker_use fuel m_1 1 d_1.a).bind fun r7 =>
        some (0, 0, 0, 0, ([r6, r7] : List Opd), (⟨#[]⟩ : ByteArray), Int.tmod (IntKind.wrap .i64 d_1.n) 8, m_1)
      else
        if decide ((IntKind.wrap .i64 (1 + (Int.tmod (IntKind.wrap .i64 d_1.op) 19))) = 19) = true then
          (idx ([(⟨#[102]⟩ : ByteArray), (⟨#[103]⟩ : ByteArray), (⟨#[112, 117, 116, 10]⟩ : ByteArray)] : List ByteArray) (Int.tmod (IntKind.wrap .i64 d_1.a) 3)).bind fun x2 =>
          (toN 0 (Int.tmod (IntKind.wrap .i64 d_1.b) 4) (fun i s => p_dyehouseref12_maker_instr_b1 fuel m_1 d_1 i s) ([] : List Opd)).bind fun c12 =>
          if decide (0 < (Int.tmod d_1.d 3)) = true then
            (p_dyehouseref12_maker_give fuel m_1 0 d_1.d).bind fun (r10, m3) =>
            some (r10.kind, r10.cls, r10.n, r10.tag, c12, x2, 0, m3)
          else
            some (0, 0, 0, 0, c12, x2, 0, m_1)
        else
          (p_dyehouseref12_maker_use fuel m_1 0 d_1.a).bind fun r11 =>
          (p_dyehouseref12_imm fuel (IntKind.wrap .i64 d_1.n)).bind fun r12 =>
          (if decide (0 < (Int.tmod d_1.b 3)) = true then
            (p_dyehouseref12_maker_use fuel m_1 0 d_1.b).bind fun r13 =>
            (idx ([r11, r12] : List Opd) 1).bind fun x3 =>
            (setI ([r11, r12] : List Opd) 1 r13).bind fun l4 =>
            some l4
          else
            some ([r11, r12] : List Opd) : Option ((List Opd))).bind fun c13 =>
          (p_dyehouseref12_maker_give fuel m_1 0 d_1.d).bind fun (r14, m4) =>
          some (r14.kind, r14.cls, r14.n, r14.tag, c13, (⟨#[]⟩ : ByteArray), 0, m4) : Option (Int × Int × Int × Int × (List Opd) × ByteArray × Int × dyehouseref12_maker)).bind fun (c2, c3, c4, c5, c6, c7, c8, c9) =>
  some ((⟨IntKind.wrap .i64 (1 + (Int.tmod (IntKind.wrap .i64 d_1.op) 19)), (⟨c2, c3, c4, c5⟩ : Opd), c6, c7, c8, [], []⟩ : Ins), c9)

def p_dyehouseref12_maker_last_v2 (fuel : Nat) (m_1 : dyehouseref12_maker) (d_1 : DBl) (i_1 : Int) (nv_1 : Int) : Option Ins :=
  (p_dyehouseref12_maker_use fuel m_1 0 d_1.v).bind fun r1 =>
  if ((decide (nv_1 = 1)) || ((decide (i_1 = (IntKind.wrap .i64 (nv_1 - 1)))) && (decide ((Int.tmod d_1.term 3) = 0)))) = true then
    (if decide ((Int.tmod d_1.v 7) = 6) = true then
      (p_dyehouseref12_imm fuel (IntKind.wrap .i64 d_1.v)).bind fun r2 =>
      some (r2.kind, r2.cls, r2.n, r2.tag)
    else
      some (r1.kind, r1.cls, r1.n, r1.tag) : Option (Int × Int × Int × Int)).bind fun (c2, c3, c4, c5) =>
    some (⟨23, (⟨0, 0, 0, 0⟩ : Opd), ([(⟨c2, c3, c4, c5⟩ : Opd)] : List Opd), (⟨#[]⟩ : ByteArray), 0, [], []⟩ : Ins)
  else
    (p_dyehouseref12_goal fuel d_1.a nv_1).bind fun r3 =>
    (if decide (i_1 < (IntKind.wrap .i64 (nv_1 - 1))) = true then
      (p_dyehouseref12_label fuel (IntKind.wrap .i64 (i_1 + 1))).bind fun r4 =>
      some r4
    else
      some r3 : Option ByteArray).bind fun next_1 =>
    bindE (
      (if decide ((Int.tmod d_1.term 4) = 0) = true then
        some (decide ((Int.tmod d_1.term 4) = 0))
      else
        some (decide ((Int.tmod d_1.term 4) = 1)) : Option Bool).bind fun x_1 =>
      if x_1 = true then
        if decide ((Int.tmod d_1.term 8) < 4) = true then
          (p_dyehouseref12_goal fuel d_1.b nv_1).bind fun r5 =>
          some (.r ((⟨21, (⟨0, 0, 0, 0⟩ : Opd), ([r1] : List Opd), (⟨#[]⟩ : ByteArray), 0, ([next_1, r5] : List ByteArray), []⟩ : Ins)))
        else
          (p_dyehouseref12_goal fuel d_1.b nv_1).bind fun r6 =>
          some (.r ((⟨21, (⟨0, 0, 0, 0⟩ : Opd), ([r1] : List Opd), (⟨#[]⟩ : ByteArray), 0, ([r6, next_1] : List ByteArray), []⟩ : Ins)))
      else
        if decide ((Int.tmod d_1.term 4) = 2) = true then
          (p_dyehouseref12_goal fuel d_1.b nv_1).bind fun r7 =>
          (if decide ((Int.tmod d_1.v 2) = 0) = true then
            (sli ([Int.tmod (IntKind.wrap .i64 d_1.a) 3, 5] : List Int) 0 1).bind fun l1 =>
            some (([r7, next_1] : List ByteArray), l1)
          else
            some (([r3, r7, next_1] : List ByteArray), ([Int.tmod (IntKind.wrap .i64 d_1.a) 3, 5] : List Int)) : Option ((List ByteArray) × (List Int))).bind fun (c6, c7) =>
          some (.r ((⟨22, (⟨0, 0, 0, 0⟩ : Opd), ([r1] : List Opd), (⟨#[]⟩ : ByteArray), 0, c6, c7⟩ : Ins)))
        else
          some (.n ())) (fun _ =>
    some (⟨20, (⟨0, 0, 0, 0⟩ : Opd), [], (⟨#[]⟩ : ByteArray), 0, ([next_1] : List ByteArray), []⟩ : Ins)) some

def p_dyehouseref12_Make_b2 (fuel : Nat) (d_1 : Drf) (i1 : Int) (c5 : List Int) (c6 : List Int) (i_1 : Int) : Option (Ex ((List Int) × (List Int) × Int) ((List Int) × (List Int))) :=
  (ix2 i1).bind fun c9 =>
  if decide (i_1 < ((⟨IntKind.wrap .i64 (1 + (Int.tmod (IntKind.wrap .i64 d_1.g) 6)), IntKind.wrap .i64 (1 + (Int.tmod (IntKind.wrap .i64 d_1.x) 3))⟩ : A2 Int).at c9)) = true then
    ((ix2 i1).bind fun c12 =>
    if c12 = true then
      (app c6 ([IntKind.wrap .i64 ((IntKind.wrap .i64 (2 * i_1)) + i1)] : List Int)).bind fun l2 =>
      some (c5, l2)
    else
      (app c5 ([IntKind.wrap .i64 ((IntKind.wrap .i64 (2 * i_1)) + i1)] : List Int)).bind fun l1 =>
      some (l1, c6) : Option ((List Int) × (List Int))).bind fun (c10, c11) =>
    some (.n (c10, c11, IntKind.wrap .i64 (i_1 + 1)))
  else
    some (.b (c5, c6, i_1))

def p_dyehouseref12_Make_b1 (fuel : Nat) (d_1 : Drf) (i1 : Int) (c1 : List Int) (c2 : List Int) : Option ((List Int) × (List Int)) :=
  bindE (loopE fuel (fun s => p_dyehouseref12_Make_b2 fuel d_1 i1 s.1 s.2.1 s.2.2) (c1, c2, 0)) (fun (c7, c8, i_2) =>
  some (c7, c8)) some

def p_dyehouseref12_Make_b3 (fuel : Nat) (d_1 : Drf) (i3 : Int) (c13 : List Rg) : Option ((List Rg)) :=
  (ix2 (Int.tmod i3 2)).bind fun c15 =>
  if decide ((IntKind.wrap .i64 (Int.tdiv i3 2)) < ((⟨IntKind.wrap .i64 (1 + (Int.tmod (IntKind.wrap .i64 d_1.g) 6)), IntKind.wrap .i64 (1 + (Int.tmod (IntKind.wrap .i64 d_1.x) 3))⟩ : A2 Int).at c15)) = true then
    (app c13 ([(⟨i3, Int.tmod i3 2⟩ : Rg)] : List Rg)).bind fun l3 =>
    some l3
  else
    some c13

def p_dyehouseref12_Make_b4 (fuel : Nat) (d_1 : Drf) (c14 : List Rg) (i_3 : Int) (c16 : List Opd) (c17 : List Int) (code_1 : List Ins) : Option (Ex (Int × (List Opd) × (List Int) × (List Ins)) Fnc) :=
  if decide (i_3 < (c14.length : Int)) = true then
    ((idx c14 i_3).bind fun x1 =>
    (rem (IntKind.wrap .i64 d_1.params) (IntKind.wrap .i64 ((c14.length : Int) + 1))).bind fun x2 =>
    if decide (i_3 < x2) = true then
      (p_dyehouseref12_vreg fuel x1.id).bind fun r1 =>
      (app c16 ([r1] : List Opd)).bind fun l4 =>
      (app c17 ([x1.id] : List Int)).bind fun l5 =>
      some (l4, l5, code_1)
    else
      if ((decide (i_3 < 2)) || (decide ((IntKind.wrap .i64 (i_3 + 2)) < (c14.length : Int)))) = true then
        (p_dyehouseref12_vreg fuel x1.id).bind fun r2 =>
        (p_dyehouseref12_imm fuel (IntKind.wrap .i64 (3 * x1.id))).bind fun r3 =>
        (app code_1 [(⟨16, r2, ([r3] : List Opd), (⟨#[]⟩ : ByteArray), 0, ([] : List ByteArray), ([] : List Int)⟩ : Ins)]).bind fun l6 =>
        (app c17 ([x1.id] : List Int)).bind fun l7 =>
        some (c16, l7, l6)
      else
        some (c16, c17, code_1) : Option ((List Opd) × (List Int) × (List Ins))).bind fun (c20, c21, code_3) =>
    some (.n (IntKind.wrap .i64 (i_3 + 1), c20, c21, code_3))
  else
    some (.b (i_3, c16, c17, code_1))

def p_dyehouseref12_Make_b6 (fuel : Nat) (c38 : List DIns) (i6 : Int) (m_1 : dyehouseref12_maker) (code_6 : List Ins) : Option (dyehouseref12_maker × (List Ins)) :=
  (idx c38 i6).bind fun x4 =>
  (p_dyehouseref12_maker_instr fuel m_1 x4).bind fun (r4, m3) =>
  (app code_6 [r4]).bind fun l10 =>
  some (m3, l10)

def p_dyehouseref12_Make_b5 (fuel : Nat) (d_1 : Drf) (l8 : List Int) (i5 : Int) (c22 : Bool) (c23 : ByteArray) (c24 : List Rg) (c25 : List Opd) (c26 : List Bl) (c27 : List Int) (c28 : List Int) (c29 : List Int) (code_4 : List Ins) : Option (Bool × ByteArray × (List Rg) × (List Opd) × (List Bl) × (List Int) × (List Int) × (List Int) × (List Ins)) :=
  (if decide (i5 < (d_1.blocks.length : Int)) = true then
    (idx d_1.blocks i5).bind fun x3 =>
    some (x3.code, x3.term, x3.a, x3.b, x3.v)
  else
    some (([] : List DIns), 0, 0, 0, 0) : Option ((List DIns) × Int × Int × Int × Int)).bind fun (c38, c39, c40, c41, c42) =>
  (app ([] : List Int) l8).bind fun l9 =>
  (toN 0 (c38.length : Int) (fun i s => p_dyehouseref12_Make_b6 fuel c38 i s.1 s.2) ((⟨(⟨c22, c23, c24, c25, c26⟩ : Fnc), (⟨c27, c28⟩ : A2 (List Int)), l9⟩ : dyehouseref12_maker), code_4)).bind fun (m_2, code_7) =>
  (p_dyehouseref12_maker_last_v2 fuel m_2 (⟨c38, c39, c40, c41, c42⟩ : DBl) i5 (if 1 > (d_1.blocks.length : Int) then 1 else (d_1.blocks.length : Int))).bind fun r5 =>
  (app code_7 [r5]).bind fun l11 =>
  (p_dyehouseref12_label fuel i5).bind fun r6 =>
  (app m_2.f.blocks [(⟨r6, false, ([] : List Opd), l11⟩ : Bl)]).bind fun l12 =>
  some (m_2.f.machine, m_2.f.name, m_2.f.regs, m_2.f.params, l12, m_2.ids.a0, m_2.ids.a1, m_2.has, ([] : List Ins))

def p_dyehouseref12_Make (fuel : Nat) (d_1 : Drf) : Option Fnc :=
  (toN 0 2 (fun i s => p_dyehouseref12_Make_b1 fuel d_1 i s.1 s.2) (([] : List Int), ([] : List Int))).bind fun (c3, c4) =>
  (toN 0 12 (fun i s => p_dyehouseref12_Make_b3 fuel d_1 i s) ([] : List Rg)).bind fun c14 =>
  bindE (loopE fuel (fun s => p_dyehouseref12_Make_b4 fuel d_1 c14 s.1 s.2.1 s.2.2.1 s.2.2.2) (0, ([] : List Opd), ([] : List Int), ([] : List Ins))) (fun (i_4, c18, c19, code_2) =>
  (app ([] : List Int) c19).bind fun l8 =>
  (toN 0 (if 1 > (d_1.blocks.length : Int) then 1 else (d_1.blocks.length : Int)) (fun i s => p_dyehouseref12_Make_b5 fuel d_1 l8 i s.1 s.2.1 s.2.2.1 s.2.2.2.1 s.2.2.2.2.1 s.2.2.2.2.2.1 s.2.2.2.2.2.2.1 s.2.2.2.2.2.2.2.1 s.2.2.2.2.2.2.2.2) (false, (⟨#[102]⟩ : ByteArray), c14, c18, ([] : List Bl), c3, c4, c19, code_2)).bind fun (c30, c31, c32, c33, c34, c35, c36, c37, code_5) =>
  some (⟨c30, c31, c32, c33, c34⟩ : Fnc)) some

def p_dyehouseref12_Find_b1 (fuel : Nat) (f_1 : Fnc) (label_1 : ByteArray) (i1 : Int) : Option (Ex Unit Int) :=
  (idx f_1.blocks i1).bind fun x1 =>
  if decide (x1.label = label_1) = true then
    some (.r (i1))
  else
    some (.n ())

def p_dyehouseref12_Find (fuel : Nat) (f_1 : Fnc) (label_1 : ByteArray) : Option Int :=
  bindE (toE 0 (f_1.blocks.length : Int) (fun i _ => p_dyehouseref12_Find_b1 fuel f_1 label_1 i) ()) (fun _ =>
  some (-1)) some

def p_dyehouseref19_Succ_b2 (fuel : Nat) (f_1 : Fnc) (x4 : Ins) (i2 : Int) (l_2 : List Int) : Option ((List Int)) :=
  (idx x4.labels i2).bind fun x5 =>
  (p_dyehouseref12_Find fuel f_1 x5).bind fun r1 =>
  (if (decide (0 ≤ r1)) = true then (p_dyehouseref12_In fuel l_2 r1).bind fun r2 =>
  some (!r2) else some false).bind fun b3 =>
  if b3 = true then
    (app l_2 ([r1] : List Int)).bind fun l1 =>
    some l1
  else
    some l_2

def p_dyehouseref19_Succ_b1 (fuel : Nat) (f_1 : Fnc) (i1 : Int) (out_1 : List (List Int)) : Option ((List (List Int))) :=
  (idx f_1.blocks i1).bind fun x1 =>
  ((if (decide (0 < (x1.code.length : Int))) = true then (idx x1.code (IntKind.wrap .i64 ((x1.code.length : Int) - 1))).bind fun x2 =>
  some (decide (20 ≤ x2.op)) else some false).bind fun b1 =>
  (if b1 = true then (idx x1.code (IntKind.wrap .i64 ((x1.code.length : Int) - 1))).bind fun x3 =>
  some (decide (x3.op ≤ 23)) else some false).bind fun b2 =>
  if b2 = true then
    (idx x1.code (IntKind.wrap .i64 ((x1.code.length : Int) - 1))).bind fun x4 =>
    (toN 0 (x4.labels.length : Int) (fun i s => p_dyehouseref19_Succ_b2 fuel f_1 x4 i s) ([] : List Int)).bind fun l_3 =>
    some l_3
  else
    some ([] : List Int) : Option ((List Int))).bind fun l_1 =>
  (app out_1 ([l_1] : List (List Int))).bind fun l2 =>
  some l2

def p_dyehouseref19_Succ (fuel : Nat) (f_1 : Fnc) : Option ((List (List Int))) :=
  (toN 0 (f_1.blocks.length : Int) (fun i s => p_dyehouseref19_Succ_b1 fuel f_1 i s) ([] : List (List Int))).bind fun out_2 =>
  some out_2

def p_dyehouseref19_Reach_b3 (fuel : Nat) (succ_1 : List (List Int)) (without_1 : Int) (i2 : Int) (k_1 : Int) (seen_5 : List Bool) : Option (Ex (Int × (List Bool)) ((List Bool))) :=
  (idx seen_5 i2).bind fun x2 =>
  (if x2 = true then (idx succ_1 i2).bind fun x3 =>
  some (decide (k_1 < (x3.length : Int))) else some false).bind fun b1 =>
  if b1 = true then
    ((idx succ_1 i2).bind fun x4 =>
    (idx x4 k_1).bind fun x5 =>
    if decide (x5 ≠ without_1) = true then
      (idx seen_5 x5).bind fun x6 =>
      (setI seen_5 x5 true).bind fun l3 =>
      some l3
    else
      some seen_5 : Option ((List Bool))).bind fun seen_7 =>
    some (.n (IntKind.wrap .i64 (k_1 + 1), seen_7))
  else
    some (.b (k_1, seen_5))

def p_dyehouseref19_Reach_b2 (fuel : Nat) (succ_1 : List (List Int)) (without_1 : Int) (i2 : Int) (seen_3 : List Bool) : Option ((List Bool)) :=
  bindE (loopE fuel (fun s => p_dyehouseref19_Reach_b3 fuel succ_1 without_1 i2 s.1 s.2) (0, seen_3)) (fun (k_2, seen_6) =>
  some seen_6) some

def p_dyehouseref19_Reach_b1 (fuel : Nat) (succ_1 : List (List Int)) (without_1 : Int) (i1 : Int) (seen_1 : List Bool) : Option ((List Bool)) :=
  (toN 0 (succ_1.length : Int) (fun i s => p_dyehouseref19_Reach_b2 fuel succ_1 without_1 i s) seen_1).bind fun seen_4 =>
  some seen_4

def p_dyehouseref19_Reach (fuel : Nat) (succ_1 : List (List Int)) (fromv_1 : Int) (without_1 : Int) : Option ((List Bool)) :=
  (mk (succ_1.length : Int) (false : Bool)).bind fun l1 =>
  if (((decide (fromv_1 < 0)) || (decide ((succ_1.length : Int) ≤ fromv_1))) || (decide (fromv_1 = without_1))) = true then
    some l1
  else
    (idx l1 fromv_1).bind fun x1 =>
    (setI l1 fromv_1 true).bind fun l2 =>
    (toN 0 (succ_1.length : Int) (fun i s => p_dyehouseref19_Reach_b1 fuel succ_1 without_1 i s) l2).bind fun seen_2 =>
    some seen_2

def p_dyehouselaw19_GraphOrder_b2 (fuel : Nat) (r5 : List Int) (r6 : List (List Int)) (i1 : Int) (x2 : Int) (r7 : List Int) (i2 : Int) (some_1 : Bool) : Option (Ex Bool (Ex Unit Bool)) :=
  (idx r7 i2).bind fun x3 =>
  if ((((decide (x3 < 0)) || (decide ((r6.length : Int) ≤ x3))) || (decide (x2 < 0))) || (decide ((r6.length : Int) ≤ x2))) = true then
    some (.r (.r (false)))
  else
    (sli r5 0 i1).bind fun l1 =>
    (p_dyehouseref12_In fuel l1 x3).bind fun r8 =>
    (if (!r8) = true then (p_dyehouseref19_Reach fuel r6 x2 (-1)).bind fun r9 =>
    (idx r9 x3).bind fun x4 =>
    some (!x4) else some false).bind fun b2 =>
    if b2 = true then
      some (.r (.r (false)))
    else
      some (.n (some_1 || r8))

def p_dyehouselaw19_GraphOrder_b1 (fuel : Nat) (r4 : graph_Graph) (r5 : List Int) (r6 : List (List Int)) (i1 : Int) : Option (Ex Unit Bool) :=
  (idx r5 i1).bind fun x2 =>
  (p_graph_Graph_Pred fuel r4 x2).bind fun r7 =>
  bindE (toE 0 (r7.length : Int) (fun i s => p_dyehouselaw19_GraphOrder_b2 fuel r5 r6 i1 x2 r7 i s) false) (fun some_2 =>
  (if (!some_2) = true then some true else (sli r5 0 i1).bind fun l2 =>
  (p_dyehouseref12_In fuel l2 x2).bind fun r10 =>
  some r10).bind fun b3 =>
  if b3 = true then
    some (.r (false))
  else
    some (.n ())) some

def p_dyehouselaw19_GraphOrder (fuel : Nat) (d_1 : Drf) : Option Bool :=
  (p_dyehouseref12_Many fuel d_1).bind fun r1 =>
  if r1 = true then
    (p_dyehouselaw19_works fuel).bind fun r2 =>
    some r2
  else
    (p_dyehouseref12_Make fuel d_1).bind fun r3 =>
    (p_graph_New fuel r3).bind fun r4 =>
    (p_graph_Graph_Order fuel r4).bind fun r5 =>
    (p_dyehouseref19_Succ fuel r3).bind fun r6 =>
    (if (decide ((r5.length : Int) ≠ (r6.length : Int))) = true then some true else (idx r5 0).bind fun x1 =>
    some (decide (x1 ≠ 0))).bind fun b1 =>
    if b1 = true then
      some false
    else
      bindE (toE 1 (r5.length : Int) (fun i _ => p_dyehouselaw19_GraphOrder_b1 fuel r4 r5 r6 i) ()) (fun _ =>
      (p_dyehouselaw19_works fuel).bind fun r11 =>
      some r11) some

end Go.Proofs.Ytodafoajkajnkaa.PL
