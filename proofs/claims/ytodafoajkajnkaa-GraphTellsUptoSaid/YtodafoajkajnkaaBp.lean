/- Functions of the program as pure ones. Printed by tr.py. -/
import Derived.Test.YtodafoajkajnkaaPD
set_option linter.unusedVariables false
namespace Go.Proofs.Ytodafoajkajnkaa.PL
open Go

def p_dyehouseref12_Large_b3 (fuel : Nat) (x2 : Ins) (i3 : Int) (nv_8 : Int) : Option Int :=
  (idx x2.labels i3).bind fun x3 =>
  some (IntKind.wrap .i64 ((IntKind.wrap .i64 (nv_8 + 1)) + (x3.size : Int)))

def p_dyehouseref12_Large_b2 (fuel : Nat) (x1 : Bl) (i2 : Int) (nv_5 : Int) : Option Int :=
  (idx x1.code i2).bind fun x2 =>
  (toN 0 (x2.labels.length : Int) (fun i s => p_dyehouseref12_Large_b3 fuel x2 i s) (IntKind.wrap .i64 ((IntKind.wrap .i64 ((IntKind.wrap .i64 ((IntKind.wrap .i64 (nv_5 + 1)) + (x2.args.length : Int))) + (x2.name.size : Int))) + (x2.cases.length : Int)))).bind fun nv_9 =>
  some nv_9

def p_dyehouseref12_Large_b1 (fuel : Nat) (f_1 : Fnc) (i1 : Int) (nv_2 : Int) : Option Int :=
  (idx f_1.blocks i1).bind fun x1 =>
  (toN 0 (x1.code.length : Int) (fun i s => p_dyehouseref12_Large_b2 fuel x1 i s) (IntKind.wrap .i64 ((IntKind.wrap .i64 (nv_2 + (x1.label.size : Int))) + (x1.ins.length : Int)))).bind fun nv_6 =>
  some nv_6

def p_dyehouseref12_Large (fuel : Nat) (f_1 : Fnc) : Option Bool :=
  (toN 0 (f_1.blocks.length : Int) (fun i s => p_dyehouseref12_Large_b1 fuel f_1 i s) (IntKind.wrap .i64 ((IntKind.wrap .i64 ((f_1.name.size : Int) + (f_1.regs.length : Int))) + (f_1.params.length : Int)))).bind fun nv_3 =>
  some ((decide (2000 < nv_3)) || (decide (80 < (f_1.blocks.length : Int))))

def p_dyehouselaw19_works_1 (fuel : Nat) (l_1 : List ByteArray) : Option ((List Ins)) :=
  some ([(⟨21, (⟨0, 0, 0, 0⟩ : Opd), [], (⟨#[]⟩ : ByteArray), 0, l_1, []⟩ : Ins)])

def p_op_Last (fuel : Nat) (op_1 : Int) : Option Bool :=
  some ((decide (20 ≤ op_1)) && (decide (op_1 ≤ 23)))

def p_graph_last (fuel : Nat) (b_1 : Bl) : Option (Ins × Bool) :=
  if decide ((b_1.code.length : Int) = 0) = true then
    some ((⟨0, (⟨0, 0, 0, 0⟩ : Opd), [], (⟨#[]⟩ : ByteArray), 0, [], []⟩ : Ins), false)
  else
    (idx b_1.code (IntKind.wrap .i64 ((b_1.code.length : Int) - 1))).bind fun x1 =>
    (p_op_Last fuel x1.op).bind fun r1 =>
    some (x1, r1)

def p_ir_Find_1 (fuel : Nat) (b_1 : Bl) (p_1 : ByteArray) : Option Bool :=
  some (decide (b_1.label = p_1))

def p_slices_IndexFunc_api_Block_api_Block_at_ir_Find_1_b1 (fuel : Nat) (s_1 : List Bl) (w1 : ByteArray) (x_2 : Int) : Option (Ex Int Int) :=
  if decide (x_2 < (s_1.length : Int)) = true then
    (idx s_1 x_2).bind fun x1 =>
    (p_ir_Find_1 fuel x1 w1).bind fun r1 =>
    if r1 = true then
      some (.r (x_2))
    else
      some (.n (IntKind.wrap .i64 (x_2 + 1)))
  else
    some (.b x_2)

def p_slices_IndexFunc_api_Block_api_Block_at_ir_Find_1 (fuel : Nat) (s_1 : List Bl) (w1 : ByteArray) : Option Int :=
  bindE (loopE fuel (fun s => p_slices_IndexFunc_api_Block_api_Block_at_ir_Find_1_b1 fuel s_1 w1 s) 0) (fun x_3 =>
  some (-1)) some

def p_ir_Find (fuel : Nat) (f_1 : Fnc) (label_1 : ByteArray) : Option Int :=
  (p_slices_IndexFunc_api_Block_api_Block_at_ir_Find_1 fuel f_1.blocks label_1).bind fun r1 =>
  some r1

def p_slices_Index_int_int_b1 (fuel : Nat) (s_1 : List Int) (v_1 : Int) (x_2 : Int) : Option (Ex Int Int) :=
  if decide (x_2 < (s_1.length : Int)) = true then
    (idx s_1 x_2).bind fun x1 =>
    if decide (v_1 = x1) = true then
      some (.r (x_2))
    else
      some (.n (IntKind.wrap .i64 (x_2 + 1)))
  else
    some (.b x_2)

def p_slices_Index_int_int (fuel : Nat) (s_1 : List Int) (v_1 : Int) : Option Int :=
  bindE (loopE fuel (fun s => p_slices_Index_int_int_b1 fuel s_1 v_1 s) 0) (fun x_3 =>
  some (-1)) some

def p_slices_Contains_int_int (fuel : Nat) (s_1 : List Int) (v_1 : Int) : Option Bool :=
  (p_slices_Index_int_int fuel s_1 v_1).bind fun r1 =>
  some (decide (0 ≤ r1))

def p_graph_New_b2 (fuel : Nat) (f_1 : Fnc) (x_2 : Int) (r1 : Ins) (c9 : List (List Int)) (c10 : List (List Int)) (x_4 : Int) : Option (Ex ((List (List Int)) × (List (List Int)) × Int) ((List (List Int)) × (List (List Int)))) :=
  if decide (x_4 < (r1.labels.length : Int)) = true then
    ((idx r1.labels x_4).bind fun x2 =>
    (p_ir_Find fuel f_1 x2).bind fun r3 =>
    (if (decide (0 ≤ r3)) = true then (idx c9 x_2).bind fun x3 =>
    (p_slices_Contains_int_int fuel x3 r3).bind fun r4 =>
    some (!r4) else some false).bind fun b1 =>
    if b1 = true then
      (idx c9 x_2).bind fun x4 =>
      (app x4 ([r3])).bind fun l3 =>
      (setI c9 x_2 l3).bind fun l4 =>
      (idx c10 r3).bind fun x5 =>
      (app x5 ([x_2])).bind fun l5 =>
      (setI c10 r3 l5).bind fun l6 =>
      some (l4, l6)
    else
      some (c9, c10)).bind fun (c11, c12) =>
    some (.n (c11, c12, IntKind.wrap .i64 (x_4 + 1)))
  else
    some (.b (c9, c10, x_4))

def p_graph_New_b1 (fuel : Nat) (f_1 : Fnc) (c3 : List (List Int)) (c4 : List (List Int)) (x_2 : Int) : Option (Ex ((List (List Int)) × (List (List Int)) × Int) graph_Graph) :=
  if decide (x_2 < (f_1.blocks.length : Int)) = true then
    ((idx f_1.blocks x_2).bind fun x1 =>
    (p_graph_last fuel x1).bind fun (r1, r2) =>
    if (!r2) = true then
      some (c3, c4)
    else
      bindE (loopE fuel (fun s => p_graph_New_b2 fuel f_1 x_2 r1 s.1 s.2.1 s.2.2) (c3, c4, 0)) (fun (c13, c14, x_5) =>
      some (c13, c14)) some).bind fun (c5, c6) =>
    some (.n (c5, c6, IntKind.wrap .i64 (x_2 + 1)))
  else
    some (.b (c3, c4, x_2))

def p_graph_New (fuel : Nat) (f_1 : Fnc) : Option graph_Graph :=
  (mk (f_1.blocks.length : Int) ([] : List Int)).bind fun l1 =>
  (mk (f_1.blocks.length : Int) ([] : List Int)).bind fun l2 =>
  bindE (loopE fuel (fun s => p_graph_New_b1 fuel f_1 s.1 s.2.1 s.2.2) (l1, l2, 0)) (fun (c15, c16, x_6) =>
  some (⟨c15, c16⟩ : graph_Graph)) some

def p_graph_Graph_Len (fuel : Nat) (g_1 : graph_Graph) : Option Int :=
  some (g_1.succ.length : Int)

def p_slices_Clone_int_int (fuel : Nat) (s : List Int) : Option (List Int) := app [] s

def p_graph_Graph_list (fuel : Nat) (g_1 : graph_Graph) (i_1 : Int) (which_1 : Int) : Option ((List Int)) :=
  (if (decide (i_1 < 0)) = true then some true else (p_graph_Graph_Len fuel g_1).bind fun r1 =>
  some (decide (r1 ≤ i_1))).bind fun b1 =>
  if b1 = true then
    some ([] : List Int)
  else
    (ix2 which_1).bind fun c1 =>
    (idx (((⟨g_1.succ, g_1.pred⟩ : A2 (List (List Int))) : A2 (List (List Int))).at c1) i_1).bind fun x1 =>
    (p_slices_Clone_int_int fuel x1).bind fun r2 =>
    some r2

def p_graph_Graph_Succ (fuel : Nat) (g_1 : graph_Graph) (i_1 : Int) : Option ((List Int)) :=
  (p_graph_Graph_list fuel g_1 i_1 0).bind fun r1 =>
  some r1

def p_dyehouseref12_Ints_b1 (fuel : Nat) (av_1 : List Int) (b_1 : List Int) (i1 : Int) : Option (Ex Unit Bool) :=
  (idx av_1 i1).bind fun x1 =>
  (idx b_1 i1).bind fun x2 =>
  if decide (x1 ≠ x2) = true then
    some (.r (false))
  else
    some (.n ())

def p_dyehouseref12_Ints (fuel : Nat) (av_1 : List Int) (b_1 : List Int) : Option Bool :=
  if decide ((av_1.length : Int) ≠ (b_1.length : Int)) = true then
    some false
  else
    bindE (toE 0 (av_1.length : Int) (fun i _ => p_dyehouseref12_Ints_b1 fuel av_1 b_1 i) ()) (fun _ =>
    some true) some

def p_graph_Graph_Pred (fuel : Nat) (g_1 : graph_Graph) (i_1 : Int) : Option ((List Int)) :=
  (p_graph_Graph_list fuel g_1 i_1 1).bind fun r1 =>
  some r1

def p_bits_New (fuel : Nat) (nv_1 : Int) : Option bits_Set :=
  (mk (IntKind.wrap .i64 (Int.tdiv (IntKind.wrap .i64 ((IntKind.wrap .i64 ((if 0 > nv_1 then 0 else nv_1) + 64)) - 1)) 64)) (0 : Int)).bind fun l1 =>
  some (⟨(if 0 > nv_1 then 0 else nv_1), l1⟩ : bits_Set)

def p_bits_Set_in (fuel : Nat) (s_1 : bits_Set) (i_1 : Int) : Option Bool :=
  some ((true && (decide (0 ≤ i_1))) && (decide (i_1 < s_1.n)))

def p_bits_Set_Has (fuel : Nat) (s_1 : bits_Set) (i_1 : Int) : Option Bool :=
  (p_bits_Set_in fuel s_1 i_1).bind fun r1 =>
  (if r1 = true then (idx s_1.words (IntKind.wrap .i64 (Int.tdiv i_1 64))).bind fun x1 =>
  (shr .u64 x1 (Int.tmod i_1 64)).bind fun x2 =>
  some (decide ((band .u64 x2 1) = 1)) else some false).bind fun b1 =>
  some b1

def p_bits_Set_Add (fuel : Nat) (s_1 : bits_Set) (i_1 : Int) : Option (Bool × bits_Set) :=
  (p_bits_Set_in fuel s_1 i_1).bind fun r1 =>
  (if (!r1) = true then some true else (p_bits_Set_Has fuel s_1 i_1).bind fun r2 =>
  some r2).bind fun b1 =>
  if b1 = true then
    some (false, s_1)
  else
    (idx s_1.words (IntKind.wrap .i64 (Int.tdiv i_1 64))).bind fun x1 =>
    (shl .u64 1 (Int.tmod i_1 64)).bind fun x2 =>
    (setI s_1.words (IntKind.wrap .i64 (Int.tdiv i_1 64)) (bor .u64 x1 x2)).bind fun l1 =>
    some (true, (⟨s_1.n, l1⟩ : bits_Set))

def p_graph_Graph_post_1 (fuel : Nat) (i_1 : Int) (p_1 : bits_Set) (p_2 : List (A2 Int)) : Option (bits_Set × (List (A2 Int))) :=
  (p_bits_Set_Add fuel p_1 i_1).bind fun (r1, m1) =>
  if r1 = true then
    (app p_2 ([(⟨i_1, 0⟩ : A2 Int)])).bind fun l1 =>
    some (m1, l1)
  else
    some (m1, p_2)

def p_graph_Graph_post_b1 (fuel : Nat) (g_1 : graph_Graph) (c4 : Int) (c5 : List Int) (c6 : List (A2 Int)) (out_2 : List Int) : Option (Ex (Int × (List Int) × (List (A2 Int)) × (List Int)) ((List Int))) :=
  if decide (0 < (c6.length : Int)) = true then
    (idx c6 (IntKind.wrap .i64 ((c6.length : Int) - 1))).bind fun x1 =>
    (idx g_1.succ x1.a0).bind fun x2 =>
    if decide (x1.a1 = (x2.length : Int)) = true then
      (sli c6 0 (IntKind.wrap .i64 ((c6.length : Int) - 1))).bind fun l1 =>
      (app out_2 ([x1.a0])).bind fun l2 =>
      some (.n (c4, c5, l1, l2))
    else
      (setI c6 (IntKind.wrap .i64 ((c6.length : Int) - 1)) (⟨x1.a0, IntKind.wrap .i64 (x1.a1 + 1)⟩ : A2 Int)).bind fun l3 =>
      (idx x2 x1.a1).bind fun x3 =>
      (p_graph_Graph_post_1 fuel x3 (⟨c4, c5⟩ : bits_Set) l3).bind fun (m4, m5) =>
      some (.n (m4.n, m4.words, m5, out_2))
  else
    some (.b (c4, c5, c6, out_2))

def p_graph_Graph_post (fuel : Nat) (g_1 : graph_Graph) : Option ((List Int)) :=
  (p_graph_Graph_Len fuel g_1).bind fun r1 =>
  (p_bits_New fuel r1).bind fun r2 =>
  (p_graph_Graph_post_1 fuel 0 r2 ([])).bind fun (m1, m2) =>
  bindE (loopE fuel (fun s => p_graph_Graph_post_b1 fuel g_1 s.1 s.2.1 s.2.2.1 s.2.2.2) (m1.n, m1.words, m2, [])) (fun (c7, c8, c9, out_3) =>
  some out_3) some

def p_slices_Reverse_int_int_b1 (fuel : Nat) (s_3 : List Int) (i_2 : Int) (j_2 : Int) : Option (Ex ((List Int) × Int × Int) ((List Int))) :=
  if decide (i_2 < j_2) = true then
    (idx s_3 j_2).bind fun x1 =>
    (idx s_3 i_2).bind fun x2 =>
    (setI s_3 i_2 x1).bind fun l1 =>
    (idx l1 j_2).bind fun x3 =>
    (setI l1 j_2 x2).bind fun l2 =>
    some (.n (l2, IntKind.wrap .i64 (i_2 + 1), IntKind.wrap .i64 (j_2 - 1)))
  else
    some (.b (s_3, i_2, j_2))

def p_slices_Reverse_int_int (fuel : Nat) (s_1 : List Int) : Option ((List Int)) :=
  bindE (loopE fuel (fun s => p_slices_Reverse_int_int_b1 fuel  s.1 s.2.1 s.2.2) (s_1, 0, IntKind.wrap .i64 ((s_1.length : Int) - 1))) (fun (s_4, i_3, j_3) =>
  some s_4) some

def p_graph_Graph_Order (fuel : Nat) (g_1 : graph_Graph) : Option ((List Int)) :=
  (p_graph_Graph_Len fuel g_1).bind fun r1 =>
  if decide (r1 = 0) = true then
    some ([] : List Int)
  else
    (p_graph_Graph_post fuel g_1).bind fun r2 =>
    (p_slices_Reverse_int_int fuel r2).bind fun m1 =>
    some m1

def p_bits_Of_b1 (fuel : Nat) (l_1 : List Int) (c3 : Int) (c4 : List Int) (x_2 : Int) : Option (Ex (Int × (List Int) × Int) bits_Set) :=
  if decide (x_2 < (l_1.length : Int)) = true then
    (idx l_1 x_2).bind fun x1 =>
    (p_bits_Set_Add fuel (⟨c3, c4⟩ : bits_Set) x1).bind fun (r2, m2) =>
    some (.n (m2.n, m2.words, IntKind.wrap .i64 (x_2 + 1)))
  else
    some (.b (c3, c4, x_2))

def p_bits_Of (fuel : Nat) (nv_1 : Int) (l_1 : List Int) : Option bits_Set :=
  (p_bits_New fuel nv_1).bind fun r1 =>
  bindE (loopE fuel (fun s => p_bits_Of_b1 fuel l_1 s.1 s.2.1 s.2.2) (r1.n, r1.words, 0)) (fun (c5, c6, x_3) =>
  some (⟨c5, c6⟩ : bits_Set)) some

def p_graph_Graph_Reached (fuel : Nat) (g_1 : graph_Graph) : Option bits_Set :=
  (p_graph_Graph_Len fuel g_1).bind fun r1 =>
  (p_graph_Graph_Order fuel g_1).bind fun r2 =>
  (p_bits_Of fuel r1 r2).bind fun r3 =>
  some r3

def p_math_bits_OnesCount64 (fuel : Nat) (x_1 : Int) : Option Int :=
  (shr .u64 x_1 1).bind fun x1 =>
  (shr .u64 (IntKind.wrap .u64 ((band .u64 x1 6148914691236517205) + (band .u64 x_1 6148914691236517205))) 2).bind fun x2 =>
  (shr .u64 (IntKind.wrap .u64 ((band .u64 x2 3689348814741910323) + (band .u64 (IntKind.wrap .u64 ((band .u64 x1 6148914691236517205) + (band .u64 x_1 6148914691236517205))) 3689348814741910323))) 4).bind fun x3 =>
  (shr .u64 (band .u64 (IntKind.wrap .u64 (x3 + (IntKind.wrap .u64 ((band .u64 x2 3689348814741910323) + (band .u64 (IntKind.wrap .u64 ((band .u64 x1 6148914691236517205) + (band .u64 x_1 6148914691236517205))) 3689348814741910323))))) 1085102592571150095) 8).bind fun x4 =>
  (shr .u64 (IntKind.wrap .u64 ((band .u64 (IntKind.wrap .u64 (x3 + (IntKind.wrap .u64 ((band .u64 x2 3689348814741910323) + (band .u64 (IntKind.wrap .u64 ((band .u64 x1 6148914691236517205) + (band .u64 x_1 6148914691236517205))) 3689348814741910323))))) 1085102592571150095) + x4)) 16).bind fun x5 =>
  (shr .u64 (IntKind.wrap .u64 ((IntKind.wrap .u64 ((band .u64 (IntKind.wrap .u64 (x3 + (IntKind.wrap .u64 ((band .u64 x2 3689348814741910323) + (band .u64 (IntKind.wrap .u64 ((band .u64 x1 6148914691236517205) + (band .u64 x_1 6148914691236517205))) 3689348814741910323))))) 1085102592571150095) + x4)) + x5)) 32).bind fun x6 =>
  some (band .i64 (IntKind.wrap .i64 (IntKind.wrap .u64 ((IntKind.wrap .u64 ((IntKind.wrap .u64 ((band .u64 (IntKind.wrap .u64 (x3 + (IntKind.wrap .u64 ((band .u64 x2 3689348814741910323) + (band .u64 (IntKind.wrap .u64 ((band .u64 x1 6148914691236517205) + (band .u64 x_1 6148914691236517205))) 3689348814741910323))))) 1085102592571150095) + x4)) + x5)) + x6))) 127)

def p_bits_Set_Count_b1 (fuel : Nat) (s_1 : bits_Set) (x_2 : Int) (nv_2 : Int) : Option (Ex (Int × Int) Int) :=
  if decide (x_2 < (s_1.words.length : Int)) = true then
    (idx s_1.words x_2).bind fun x1 =>
    (p_math_bits_OnesCount64 fuel x1).bind fun r1 =>
    some (.n (IntKind.wrap .i64 (x_2 + 1), IntKind.wrap .i64 (nv_2 + r1)))
  else
    some (.b (x_2, nv_2))

def p_bits_Set_Count (fuel : Nat) (s_1 : bits_Set) : Option Int :=
  bindE (loopE fuel (fun s => p_bits_Set_Count_b1 fuel s_1 s.1 s.2) (0, 0)) (fun (x_3, nv_3) =>
  some nv_3) some

def p_slices_Sort_int_int (fuel : Nat) (l : List Int) : Option (List Int) := if l.length ≤ 4294967296 then some (l.mergeSort fun x y => decide (x ≤ y)) else none

def p_graph_Graph_Edges_b2 (fuel : Nat) (x_2 : Int) (m2 : List Int) (x_4 : Int) (out_4 : List (A2 Int)) : Option (Ex (Int × (List (A2 Int))) (Ex (Int × (List (A2 Int))) ((List (A2 Int))))) :=
  if decide (x_4 < (m2.length : Int)) = true then
    (idx m2 x_4).bind fun x1 =>
    (app out_4 ([(⟨x_2, x1⟩ : A2 Int)])).bind fun l1 =>
    some (.n (IntKind.wrap .i64 (x_4 + 1), l1))
  else
    some (.b (x_4, out_4))

def p_graph_Graph_Edges_b1 (fuel : Nat) (g_1 : graph_Graph) (r1 : Int) (x_2 : Int) (out_2 : List (A2 Int)) : Option (Ex (Int × (List (A2 Int))) ((List (A2 Int)))) :=
  if decide (x_2 < r1) = true then
    (p_graph_Graph_Succ fuel g_1 x_2).bind fun r2 =>
    (p_slices_Sort_int_int fuel r2).bind fun m2 =>
    bindE (loopE fuel (fun s => p_graph_Graph_Edges_b2 fuel x_2 m2 s.1 s.2) (0, out_2)) (fun (x_5, out_5) =>
    some (.n (IntKind.wrap .i64 (x_2 + 1), out_5))) some
  else
    some (.b (x_2, out_2))

def p_graph_Graph_Edges (fuel : Nat) (g_1 : graph_Graph) : Option ((List (A2 Int))) :=
  (p_graph_Graph_Len fuel g_1).bind fun r1 =>
  bindE (loopE fuel (fun s => p_graph_Graph_Edges_b1 fuel g_1 r1 s.1 s.2) (0, [])) (fun (x_6, out_6) =>
  some out_6) some

def p_graph_Graph_Away_1 (fuel : Nat) (i_1 : Int) (p_1 : Int) (p_2 : bits_Set) (p_3 : List Int) : Option (bits_Set × (List Int)) :=
  (if (decide (i_1 ≠ p_1)) = true then (p_bits_Set_Add fuel p_2 i_1).bind fun (r1, m1) =>
  some (r1, m1.n, m1.words) else some (false, p_2.n, p_2.words)).bind fun (b1, c1, c2) =>
  if b1 = true then
    (app p_3 ([i_1])).bind fun l1 =>
    some ((⟨c1, c2⟩ : bits_Set), l1)
  else
    some ((⟨c1, c2⟩ : bits_Set), p_3)

def p_graph_Graph_Away_b2 (fuel : Nat) (without_1 : Int) (r3 : List Int) (c10 : Int) (c11 : List Int) (c12 : List Int) (x_2 : Int) : Option (Ex (Int × (List Int) × (List Int) × Int) (Ex (Int × (List Int) × (List Int)) bits_Set)) :=
  if decide (x_2 < (r3.length : Int)) = true then
    (idx r3 x_2).bind fun x2 =>
    (p_graph_Graph_Away_1 fuel x2 without_1 (⟨c10, c11⟩ : bits_Set) c12).bind fun (m5, m6) =>
    some (.n (m5.n, m5.words, m6, IntKind.wrap .i64 (x_2 + 1)))
  else
    some (.b (c10, c11, c12, x_2))

def p_graph_Graph_Away_b1 (fuel : Nat) (g_1 : graph_Graph) (without_1 : Int) (c4 : Int) (c5 : List Int) (c6 : List Int) : Option (Ex (Int × (List Int) × (List Int)) bits_Set) :=
  if decide (0 < (c6.length : Int)) = true then
    (idx c6 (IntKind.wrap .i64 ((c6.length : Int) - 1))).bind fun x1 =>
    (sli c6 0 (IntKind.wrap .i64 ((c6.length : Int) - 1))).bind fun l1 =>
    (p_graph_Graph_Pred fuel g_1 x1).bind fun r3 =>
    bindE (loopE fuel (fun s => p_graph_Graph_Away_b2 fuel without_1 r3 s.1 s.2.1 s.2.2.1 s.2.2.2) (c4, c5, l1, 0)) (fun (c13, c14, c15, x_3) =>
    some (.n (c13, c14, c15))) some
  else
    some (.b (c4, c5, c6))

def p_graph_Graph_Away (fuel : Nat) (g_1 : graph_Graph) (tov_1 : Int) (without_1 : Int) : Option bits_Set :=
  (p_graph_Graph_Len fuel g_1).bind fun r1 =>
  (p_bits_New fuel r1).bind fun r2 =>
  (p_graph_Graph_Away_1 fuel tov_1 without_1 r2 ([])).bind fun (m1, m2) =>
  bindE (loopE fuel (fun s => p_graph_Graph_Away_b1 fuel g_1 without_1 s.1 s.2.1 s.2.2) (m1.n, m1.words, m2)) (fun (c16, c17, c18) =>
  some (⟨c16, c17⟩ : bits_Set)) some

def p_dyehouselaw19_works (fuel : Nat) : Option Bool :=
  (p_dyehouselaw19_works_1 fuel ([(⟨#[99]⟩ : ByteArray), (⟨#[98]⟩ : ByteArray), (⟨#[99]⟩ : ByteArray)])).bind fun r1 =>
  (p_dyehouselaw19_works_1 fuel ([(⟨#[100]⟩ : ByteArray), (⟨#[98]⟩ : ByteArray)])).bind fun r2 =>
  (p_dyehouselaw19_works_1 fuel ([(⟨#[100]⟩ : ByteArray)])).bind fun r3 =>
  (p_dyehouselaw19_works_1 fuel ([(⟨#[100]⟩ : ByteArray)])).bind fun r4 =>
  (p_graph_New fuel (⟨false, (⟨#[]⟩ : ByteArray), [], [], [(⟨(⟨#[97]⟩ : ByteArray), false, [], r1⟩ : Bl), (⟨(⟨#[98]⟩ : ByteArray), false, [], r2⟩ : Bl), (⟨(⟨#[99]⟩ : ByteArray), false, [], r3⟩ : Bl), (⟨(⟨#[100]⟩ : ByteArray), false, [], []⟩ : Bl), (⟨(⟨#[101]⟩ : ByteArray), false, [], r4⟩ : Bl)]⟩ : Fnc)).bind fun r5 =>
  (p_graph_Graph_Succ fuel r5 0).bind fun r6 =>
  (p_dyehouseref12_Ints fuel r6 ([2, 1])).bind fun r7 =>
  (if r7 = true then (p_graph_Graph_Pred fuel r5 3).bind fun r8 =>
  (p_dyehouseref12_Ints fuel r8 ([1, 2, 4])).bind fun r9 =>
  some r9 else some false).bind fun b1 =>
  (if b1 = true then (p_graph_Graph_Order fuel r5).bind fun r10 =>
  (p_dyehouseref12_Ints fuel r10 ([0, 1, 2, 3])).bind fun r11 =>
  some r11 else some false).bind fun b2 =>
  (if b2 = true then (p_graph_Graph_Reached fuel r5).bind fun r12 =>
  (p_bits_Set_Count fuel r12).bind fun r13 =>
  some (decide (r13 = 4)) else some false).bind fun b3 =>
  (if b3 = true then (p_graph_Graph_Edges fuel r5).bind fun r14 =>
  some (decide ((r14.length : Int) = 6)) else some false).bind fun b4 =>
  (if b4 = true then (p_graph_Graph_Len fuel r5).bind fun r15 =>
  some (decide (r15 = 5)) else some false).bind fun b5 =>
  (if b5 = true then (p_graph_Graph_Away fuel r5 3 1).bind fun r16 =>
  (p_bits_Set_Count fuel r16).bind fun r17 =>
  some (decide (r17 = 4)) else some false).bind fun b6 =>
  some b6

def p_dyehouseref12_Find_b1 (fuel : Nat) (f_1 : Fnc) (label_1 : ByteArray) (i1 : Int) : Option (Ex Unit Int) :=
  (idx f_1.blocks i1).bind fun x1 =>
  if decide (x1.label = label_1) = true then
    some (.r (i1))
  else
    some (.n ())

def p_dyehouseref12_Find (fuel : Nat) (f_1 : Fnc) (label_1 : ByteArray) : Option Int :=
  bindE (toE 0 (f_1.blocks.length : Int) (fun i _ => p_dyehouseref12_Find_b1 fuel f_1 label_1 i) ()) (fun _ =>
  some (-1)) some

def p_dyehouseref12_In_b1 (fuel : Nat) (l_1 : List Int) (nv_1 : Int) (i1 : Int) : Option (Ex Unit Bool) :=
  (idx l_1 i1).bind fun x1 =>
  if decide (x1 = nv_1) = true then
    some (.r (true))
  else
    some (.n ())

def p_dyehouseref12_In (fuel : Nat) (l_1 : List Int) (nv_1 : Int) : Option Bool :=
  bindE (toE 0 (l_1.length : Int) (fun i _ => p_dyehouseref12_In_b1 fuel l_1 nv_1 i) ()) (fun _ =>
  some false) some

def p_dyehouseref19_Succ_b2 (fuel : Nat) (f_1 : Fnc) (x4 : Ins) (i2 : Int) (l_3 : List Int) : Option ((List Int)) :=
  (idx x4.labels i2).bind fun x5 =>
  (p_dyehouseref12_Find fuel f_1 x5).bind fun r1 =>
  (if (decide (0 ≤ r1)) = true then (p_dyehouseref12_In fuel l_3 r1).bind fun r2 =>
  some (!r2) else some false).bind fun b3 =>
  if b3 = true then
    (app l_3 ([r1])).bind fun l1 =>
    some l1
  else
    some l_3

def p_dyehouseref19_Succ_b1 (fuel : Nat) (f_1 : Fnc) (i1 : Int) (out_2 : List (List Int)) : Option ((List (List Int))) :=
  (idx f_1.blocks i1).bind fun x1 =>
  ((if (decide (0 < (x1.code.length : Int))) = true then (idx x1.code (IntKind.wrap .i64 ((x1.code.length : Int) - 1))).bind fun x2 =>
  some (decide (20 ≤ x2.op)) else some false).bind fun b1 =>
  (if b1 = true then (idx x1.code (IntKind.wrap .i64 ((x1.code.length : Int) - 1))).bind fun x3 =>
  some (decide (x3.op ≤ 23)) else some false).bind fun b2 =>
  if b2 = true then
    (idx x1.code (IntKind.wrap .i64 ((x1.code.length : Int) - 1))).bind fun x4 =>
    (toN 0 (x4.labels.length : Int) (fun i s => p_dyehouseref19_Succ_b2 fuel f_1 x4 i s) ([])).bind fun l_4 =>
    some l_4
  else
    some ([])).bind fun l_1 =>
  (app out_2 ([l_1])).bind fun l2 =>
  some l2

def p_dyehouseref19_Succ (fuel : Nat) (f_1 : Fnc) : Option ((List (List Int))) :=
  (toN 0 (f_1.blocks.length : Int) (fun i s => p_dyehouseref19_Succ_b1 fuel f_1 i s) ([])).bind fun out_3 =>
  some out_3

def p_dyehouseref19_Pred_b1 (fuel : Nat) (succ_1 : List (List Int)) (i_1 : Int) (i1 : Int) (out_2 : List Int) : Option ((List Int)) :=
  (idx succ_1 i1).bind fun x1 =>
  (p_dyehouseref12_In fuel x1 i_1).bind fun r1 =>
  if r1 = true then
    (app out_2 ([i1])).bind fun l1 =>
    some l1
  else
    some out_2

def p_dyehouseref19_Pred (fuel : Nat) (succ_1 : List (List Int)) (i_1 : Int) : Option ((List Int)) :=
  (toN 0 (succ_1.length : Int) (fun i s => p_dyehouseref19_Pred_b1 fuel succ_1 i_1 i s) ([])).bind fun out_3 =>
  some out_3

def p_dyehouseref19_Reach_b3 (fuel : Nat) (succ_1 : List (List Int)) (without_1 : Int) (i2 : Int) (k_2 : Int) (seen_8 : List Bool) : Option (Ex (Int × (List Bool)) ((List Bool))) :=
  (idx seen_8 i2).bind fun x2 =>
  (if x2 = true then (idx succ_1 i2).bind fun x3 =>
  some (decide (k_2 < (x3.length : Int))) else some false).bind fun b1 =>
  if b1 = true then
    ((idx succ_1 i2).bind fun x4 =>
    (idx x4 k_2).bind fun x5 =>
    if decide (x5 ≠ without_1) = true then
      (idx seen_8 x5).bind fun x6 =>
      (setI seen_8 x5 true).bind fun l3 =>
      some l3
    else
      some seen_8).bind fun seen_9 =>
    some (.n (IntKind.wrap .i64 (k_2 + 1), seen_9))
  else
    some (.b (k_2, seen_8))

def p_dyehouseref19_Reach_b2 (fuel : Nat) (succ_1 : List (List Int)) (without_1 : Int) (i2 : Int) (seen_5 : List Bool) : Option ((List Bool)) :=
  bindE (loopE fuel (fun s => p_dyehouseref19_Reach_b3 fuel succ_1 without_1 i2 s.1 s.2) (0, seen_5)) (fun (k_3, seen_10) =>
  some seen_10) some

def p_dyehouseref19_Reach_b1 (fuel : Nat) (succ_1 : List (List Int)) (without_1 : Int) (i1 : Int) (seen_2 : List Bool) : Option ((List Bool)) :=
  (toN 0 (succ_1.length : Int) (fun i s => p_dyehouseref19_Reach_b2 fuel succ_1 without_1 i s) seen_2).bind fun seen_6 =>
  some seen_6

def p_dyehouseref19_Reach (fuel : Nat) (succ_1 : List (List Int)) (fromv_1 : Int) (without_1 : Int) : Option ((List Bool)) :=
  (mk (succ_1.length : Int) (false : Bool)).bind fun l1 =>
  if (((decide (fromv_1 < 0)) || (decide ((succ_1.length : Int) ≤ fromv_1))) || (decide (fromv_1 = without_1))) = true then
    some l1
  else
    (idx l1 fromv_1).bind fun x1 =>
    (setI l1 fromv_1 true).bind fun l2 =>
    (toN 0 (succ_1.length : Int) (fun i s => p_dyehouseref19_Reach_b1 fuel succ_1 without_1 i s) l2).bind fun seen_3 =>
    some seen_3

def p_dyehouseref19_walk_b1 (fuel : Nat) (rec_ : (List (List Int)) → Int → (List Bool) → (List Int) → Option ((List Int) × (List Bool))) (succ_1 : List (List Int)) (x2 : List Int) (i1 : Int) (seen_3 : List Bool) (out_3 : List Int) : Option ((List Bool) × (List Int)) :=
  (idx x2 i1).bind fun x3 =>
  (idx seen_3 x3).bind fun x4 =>
  if (!x4) = true then
    (rec_ succ_1 x3 seen_3 out_3).bind fun (r1, m1) =>
    some (m1, r1)
  else
    some (seen_3, out_3)

def p_dyehouseref19_walk : Nat → (List (List Int)) → Int → (List Bool) → (List Int) → Option ((List Int) × (List Bool))
  | 0 => fun _ _ _ _ => none
  | fuel + 1 => fun succ_1 i_1 seen_1 out_1 =>
    (idx seen_1 i_1).bind fun x1 =>
    (setI seen_1 i_1 true).bind fun l1 =>
    (idx succ_1 i_1).bind fun x2 =>
    (toN 0 (x2.length : Int) (fun i s => p_dyehouseref19_walk_b1 fuel (p_dyehouseref19_walk fuel) succ_1 x2 i s.1 s.2) (l1, out_1)).bind fun (seen_4, out_4) =>
    (app out_4 ([i_1])).bind fun l2 =>
    some (l2, seen_4)

def p_dyehouseref19_Order_b1 (fuel : Nat) (r1 : List Int) (out_2 : List Int) (i_2 : Int) : Option (Ex ((List Int) × Int) ((List Int))) :=
  if decide (0 ≤ i_2) = true then
    (idx r1 i_2).bind fun x1 =>
    (app out_2 ([x1])).bind fun l2 =>
    some (.n (l2, IntKind.wrap .i64 (i_2 - 1)))
  else
    some (.b (out_2, i_2))

def p_dyehouseref19_Order (fuel : Nat) (succ_1 : List (List Int)) : Option ((List Int)) :=
  if decide ((succ_1.length : Int) = 0) = true then
    some ([] : List Int)
  else
    (mk (succ_1.length : Int) (false : Bool)).bind fun l1 =>
    (p_dyehouseref19_walk fuel succ_1 0 l1 ([])).bind fun (r1, m1) =>
    bindE (loopE fuel (fun s => p_dyehouseref19_Order_b1 fuel r1 s.1 s.2) ([], IntKind.wrap .i64 ((r1.length : Int) - 1))) (fun (out_3, i_3) =>
    some out_3) some

def p_dyehouselaw19_GraphTells_b2 (fuel : Nat) (r6 : List (A2 Int)) (i1 : Int) (x1 : List Int) (i2 : Int) (nv_4 : Int) : Option (Ex Int (Ex Int Bool)) :=
  (p_dyehouseref12_In fuel x1 i2).bind fun r12 =>
  if r12 = true then
    (if (decide ((r6.length : Int) ≤ nv_4)) = true then some true else (idx r6 nv_4).bind fun x2 =>
    some (!decide (x2 = (⟨i1, i2⟩ : A2 Int)))).bind fun b3 =>
    if b3 = true then
      some (.r (.r (false)))
    else
      some (.n (IntKind.wrap .i64 (nv_4 + 1)))
  else
    some (.n nv_4)

def p_dyehouselaw19_GraphTells_b1 (fuel : Nat) (r3 : graph_Graph) (r4 : List (List Int)) (r6 : List (A2 Int)) (i1 : Int) (nv_2 : Int) : Option (Ex Int Bool) :=
  (p_graph_Graph_Succ fuel r3 i1).bind fun r7 =>
  (idx r4 i1).bind fun x1 =>
  (p_dyehouseref12_Ints fuel r7 x1).bind fun r8 =>
  (if (!r8) = true then some true else (p_graph_Graph_Pred fuel r3 i1).bind fun r9 =>
  (p_dyehouseref19_Pred fuel r4 i1).bind fun r10 =>
  (p_dyehouseref12_Ints fuel r9 r10).bind fun r11 =>
  some (!r11)).bind fun b2 =>
  if b2 = true then
    some (.r (false))
  else
    bindE (toE 0 (r4.length : Int) (fun i s => p_dyehouselaw19_GraphTells_b2 fuel r6 i1 x1 i s) nv_2) (fun nv_5 =>
    some (.n nv_5)) some

def p_dyehouselaw19_GraphTells_b3 (fuel : Nat) (r3 : graph_Graph) (r13 : List Bool) (i3 : Int) : Option (Ex Unit Bool) :=
  (p_graph_Graph_Reached fuel r3).bind fun r14 =>
  (p_bits_Set_Has fuel r14 i3).bind fun r15 =>
  (idx r13 i3).bind fun x3 =>
  if (r15 != x3) = true then
    some (.r (false))
  else
    some (.n ())

def p_dyehouselaw19_GraphTells (fuel : Nat) (f_1 : Fnc) (i_1 : Int) : Option Bool :=
  (p_dyehouseref12_Large fuel f_1).bind fun r1 =>
  if r1 = true then
    (p_dyehouselaw19_works fuel ).bind fun r2 =>
    some r2
  else
    (p_graph_New fuel f_1).bind fun r3 =>
    (p_dyehouseref19_Succ fuel f_1).bind fun r4 =>
    (if false = true then some true else (p_graph_Graph_Len fuel r3).bind fun r5 =>
    some (decide (r5 ≠ (r4.length : Int)))).bind fun b1 =>
    if b1 = true then
      some false
    else
      (p_graph_Graph_Edges fuel r3).bind fun r6 =>
      bindE (toE 0 (r4.length : Int) (fun i s => p_dyehouselaw19_GraphTells_b1 fuel r3 r4 r6 i s) 0) (fun nv_6 =>
      (p_dyehouseref19_Reach fuel r4 0 (-1)).bind fun r13 =>
      bindE (toE 0 (r4.length : Int) (fun i _ => p_dyehouselaw19_GraphTells_b3 fuel r3 r13 i) ()) (fun _ =>
      if ((decide (i_1 < 0)) || (decide ((r4.length : Int) ≤ i_1))) = true then
        (p_graph_Graph_Succ fuel r3 i_1).bind fun r16 =>
        (if (decide ((r16.length : Int) = 0)) = true then (p_graph_Graph_Pred fuel r3 i_1).bind fun r17 =>
        some (decide ((r17.length : Int) = 0)) else some false).bind fun b4 =>
        (if (b4 && (decide (nv_6 = (r6.length : Int)))) = true then (p_dyehouselaw19_works fuel ).bind fun r18 =>
        some r18 else some false).bind fun b5 =>
        some b5
      else
        (if (decide (nv_6 = (r6.length : Int))) = true then (p_graph_Graph_Order fuel r3).bind fun r19 =>
        (p_dyehouseref19_Order fuel r4).bind fun r20 =>
        (p_dyehouseref12_Ints fuel r19 r20).bind fun r21 =>
        some r21 else some false).bind fun b6 =>
        (if b6 = true then (p_dyehouselaw19_works fuel ).bind fun r22 =>
        some r22 else some false).bind fun b7 =>
        some b7) some) some

def p_dyehouselaw19_GraphAway_b1 (fuel : Nat) (tov_1 : Int) (without_1 : Int) (r3 : List (List Int)) (r5 : bits_Set) (i1 : Int) : Option (Ex Unit Bool) :=
  (p_dyehouseref19_Reach fuel r3 i1 without_1).bind fun r6 =>
  (if ((decide (0 ≤ tov_1)) && (decide (tov_1 < (r3.length : Int)))) = true then (idx r6 tov_1).bind fun x1 =>
  some x1 else some false).bind fun b1 =>
  (p_bits_Set_Has fuel r5 i1).bind fun r7 =>
  if (r7 != b1) = true then
    some (.r (false))
  else
    some (.n ())

def p_dyehouselaw19_GraphAway (fuel : Nat) (f_1 : Fnc) (tov_1 : Int) (without_1 : Int) : Option Bool :=
  (p_dyehouseref12_Large fuel f_1).bind fun r1 =>
  if (r1 || (decide (30 < (f_1.blocks.length : Int)))) = true then
    (p_dyehouselaw19_works fuel ).bind fun r2 =>
    some r2
  else
    (p_dyehouseref19_Succ fuel f_1).bind fun r3 =>
    (p_graph_New fuel f_1).bind fun r4 =>
    (p_graph_Graph_Away fuel r4 tov_1 without_1).bind fun r5 =>
    bindE (toE 0 (r3.length : Int) (fun i _ => p_dyehouselaw19_GraphAway_b1 fuel tov_1 without_1 r3 r5 i) ()) (fun _ =>
    (p_dyehouselaw19_works fuel ).bind fun r8 =>
    some r8) some

end Go.Proofs.Ytodafoajkajnkaa.PL
