/- Functions of the program as pure ones. Printed by tq.py. -/
import Derived.Test.YtodafoajkajnkaaPD
import Derived.Test.YtodafoajkajnkaaPM
set_option linter.unusedVariables false
namespace Go.Proofs.Ytodafoajkajnkaa.PL
open Go

def p_dyehouseref12_Large_b3 (fuel : Nat) (x2 : Ins) (i3 : Int) (nv_5 : Int) : Option Int :=
  (idx x2.labels i3).bind fun x3 =>
  some (IntKind.wrap .i64 ((IntKind.wrap .i64 (nv_5 + 1)) + (x3.size : Int)))

def p_dyehouseref12_Large_b2 (fuel : Nat) (x1 : Bl) (i2 : Int) (nv_3 : Int) : Option Int :=
  (idx x1.code i2).bind fun x2 =>
  (toN 0 (x2.labels.length : Int) (fun i s => p_dyehouseref12_Large_b3 fuel x2 i s) (IntKind.wrap .i64 ((IntKind.wrap .i64 ((IntKind.wrap .i64 ((IntKind.wrap .i64 (nv_3 + 1)) + (x2.args.length : Int))) + (x2.name.size : Int))) + (x2.cases.length : Int)))).bind fun nv_6 =>
  some nv_6

def p_dyehouseref12_Large_b1 (fuel : Nat) (f_1 : Fnc) (i1 : Int) (nv_1 : Int) : Option Int :=
  (idx f_1.blocks i1).bind fun x1 =>
  (toN 0 (x1.code.length : Int) (fun i s => p_dyehouseref12_Large_b2 fuel x1 i s) (IntKind.wrap .i64 ((IntKind.wrap .i64 (nv_1 + (x1.label.size : Int))) + (x1.ins.length : Int)))).bind fun nv_4 =>
  some nv_4

def p_dyehouseref12_Large (fuel : Nat) (f_1 : Fnc) : Option Bool :=
  (toN 0 (f_1.blocks.length : Int) (fun i s => p_dyehouseref12_Large_b1 fuel f_1 i s) (IntKind.wrap .i64 ((IntKind.wrap .i64 ((f_1.name.size : Int) + (f_1.regs.length : Int))) + (f_1.params.length : Int)))).bind fun nv_2 =>
  some ((decide (2000 < nv_2)) || (decide (80 < (f_1.blocks.length : Int))))

def p_dyehouselaw12_works_1 (fuel : Nat) (nv_1 : Int) : Option Opd :=
  some (⟨1, 0, nv_1, 0⟩ : Opd)

def p_ir_Value (fuel : Nat) (o_1 : Opd) : Option (Int × Bool) :=
  bindE (
    if decide (o_1.kind = 1) = true then
      some (.r ((o_1.n, true)))
    else
      (if decide (o_1.kind = 2) = true then
        some (decide (o_1.kind = 2))
      else
        some (decide (o_1.kind = 3))).bind fun x_1 =>
      if x_1 = true then
        some (.r ((o_1.tag, true)))
      else
        some (.n ())) (fun _ =>
  some (0, false)) some

def p_ir_Def (fuel : Nat) (i_1 : Ins) : Option (Int × Bool) :=
  (p_ir_Value fuel i_1.dst).bind fun (r1, r2) =>
  some (r1, r2)

def p_ir_Class_b1 (fuel : Nat) (f_1 : Fnc) (v_1 : Int) (x_1 : Int) : Option (Ex Int (Int × Bool)) :=
  if decide (x_1 < (f_1.regs.length : Int)) = true then
    (idx f_1.regs x_1).bind fun x1 =>
    if decide (x1.id = v_1) = true then
      some (.r ((x1.cls, true)))
    else
      some (.n (IntKind.wrap .i64 (x_1 + 1)))
  else
    some (.b x_1)

def p_ir_Class (fuel : Nat) (f_1 : Fnc) (v_1 : Int) : Option (Int × Bool) :=
  bindE (loopE fuel (fun s => p_ir_Class_b1 fuel f_1 v_1 s) 0) (fun x_2 =>
  some (0, false)) some

def p_ir_Put (fuel : Nat) (l_1 : Lc) (v_1 : Int) : Option Opd :=
  some (⟨l_1.kind, l_1.cls, l_1.n, v_1⟩ : Opd)

def p_ir_At (fuel : Nat) (o_1 : Opd) : Option (Lc × Bool) :=
  if decide (o_1.kind = 2) = true then
    some ((⟨2, o_1.cls, o_1.n⟩ : Lc), true)
  else
    if decide (o_1.kind = 3) = true then
      some ((⟨3, 0, o_1.n⟩ : Lc), true)
    else
      some ((⟨0, 0, 0⟩ : Lc), false)

def p_ir_Operands (fuel : Nat) (f_1 : Fnc) : Option Fnc :=
  some f_1

def p_ir_Operands_1_1_b1 (fuel : Nat) {σ : Type} (y : σ → Opd → Option (Bool × σ)) (l_1 : List Opd) (x_1 : Int) (c1 : Bool × σ) : Option (Ex (Int × (Bool × σ)) (Bool × (Bool × σ))) :=
  if decide (x_1 < (l_1.length : Int)) = true then
    (idx l_1 x_1).bind fun x1 =>
    (yl y c1 x1).bind fun (r1, m2) =>
    if (!r1) = true then
      some (.r ((false, m2)))
    else
      some (.n (IntKind.wrap .i64 (x_1 + 1), m2))
  else
    some (.b (x_1, c1))

def p_ir_Operands_1_1 (fuel : Nat) {σ : Type} (y : σ → Opd → Option (Bool × σ)) (l_1 : List Opd) (p_1 : Unit) (w1 : Bool × σ) : Option (Bool × (Bool × σ)) :=
  bindE (loopE fuel (fun s => p_ir_Operands_1_1_b1 fuel y l_1 s.1 s.2) (0, w1)) (fun (x_2, c2) =>
  some (true, c2)) some

def p_ir_Operands_1_b2 (fuel : Nat) {σ : Type} (y : σ → Opd → Option (Bool × σ)) (x1 : Bl) (x_3 : Int) (c3 : Bool × σ) : Option (Ex (Int × (Bool × σ)) (Ex (Int × (Bool × σ)) ((Bool × σ)))) :=
  if decide (x_3 < (x1.code.length : Int)) = true then
    (idx x1.code x_3).bind fun x2 =>
    (yl y c3 x2.dst).bind fun (r3, m5) =>
    (if (!r3) = true then some (true, m5) else (p_ir_Operands_1_1 fuel y x2.args () m5).bind fun (r4, m6) =>
    some ((!r4), m6)).bind fun (b1, c5) =>
    if b1 = true then
      some (.r (.r (c5)))
    else
      some (.n (IntKind.wrap .i64 (x_3 + 1), c5))
  else
    some (.b (x_3, c3))

def p_ir_Operands_1_b1 (fuel : Nat) {σ : Type} (y : σ → Opd → Option (Bool × σ)) (p_1 : Fnc) (x_1 : Int) (c1 : Bool × σ) : Option (Ex (Int × (Bool × σ)) ((Bool × σ))) :=
  if decide (x_1 < (p_1.blocks.length : Int)) = true then
    (idx p_1.blocks x_1).bind fun x1 =>
    (p_ir_Operands_1_1 fuel y x1.ins () c1).bind fun (r2, m3) =>
    if (!r2) = true then
      some (.r (m3))
    else
      bindE (loopE fuel (fun s => p_ir_Operands_1_b2 fuel y x1 s.1 s.2) (0, m3)) (fun (x_4, c4) =>
      some (.n (IntKind.wrap .i64 (x_1 + 1), c4))) some
  else
    some (.b (x_1, c1))

def p_ir_Operands_1 (fuel : Nat) {σ : Type} (y : σ → Opd → Option (Bool × σ)) (p_1 : Fnc) (w1 : Bool × σ) : Option ((Bool × σ)) :=
  (p_ir_Operands_1_1 fuel y p_1.params () w1).bind fun (r1, m1) =>
  if (!r1) = true then
    some m1
  else
    bindE (loopE fuel (fun s => p_ir_Operands_1_b1 fuel y p_1 s.1 s.2) (0, m1)) (fun (x_2, c2) =>
    some c2) some

/-- The operands of a function, in order. -/
def opsL (f : Fnc) : List Opd := f.params ++ f.blocks.flatMap fun b => b.ins ++ b.code.flatMap fun i => i.dst :: i.args
def l_ir_Operands (fuel : Nat) (f : Fnc) : Option (List Opd) :=
  if f.params.length < 4294967296 ∧ f.params.length < fuel ∧ f.blocks.length < 4294967296 ∧ f.blocks.length < fuel ∧ ∀ b ∈ f.blocks, b.ins.length < 4294967296 ∧ b.ins.length < fuel ∧ b.code.length < 4294967296 ∧ b.code.length < fuel ∧ ∀ i ∈ b.code, i.args.length < 4294967296 ∧ i.args.length < fuel then
    some (opsL f)
  else none

def p_slices_Index_int_int_b1 (fuel : Nat) (s_1 : List Int) (v_1 : Int) (x_1 : Int) : Option (Ex Int Int) :=
  if decide (x_1 < (s_1.length : Int)) = true then
    (idx s_1 x_1).bind fun x1 =>
    if decide (v_1 = x1) = true then
      some (.r (x_1))
    else
      some (.n (IntKind.wrap .i64 (x_1 + 1)))
  else
    some (.b x_1)

def p_slices_Index_int_int (fuel : Nat) (s_1 : List Int) (v_1 : Int) : Option Int :=
  bindE (loopE fuel (fun s => p_slices_Index_int_int_b1 fuel s_1 v_1 s) 0) (fun x_2 =>
  some (-1)) some

def p_slices_Contains_int_int (fuel : Nat) (s_1 : List Int) (v_1 : Int) : Option Bool :=
  (p_slices_Index_int_int fuel s_1 v_1).bind fun r1 =>
  some (decide (0 ≤ r1))

def p_ir_Uses_b1 (fuel : Nat) (i_1 : Ins) (x_1 : Int) (out_1 : List Int) : Option (Ex (Int × (List Int)) ((List Int))) :=
  if decide (x_1 < (i_1.args.length : Int)) = true then
    ((idx i_1.args x_1).bind fun x1 =>
    (p_ir_Value fuel x1).bind fun (r1, r2) =>
    (if r2 = true then (p_slices_Contains_int_int fuel out_1 r1).bind fun r3 =>
    some (!r3) else some false).bind fun b1 =>
    if b1 = true then
      (app out_1 ([r1] : List Int)).bind fun l1 =>
      some l1
    else
      some out_1).bind fun out_3 =>
    some (.n (IntKind.wrap .i64 (x_1 + 1), out_3))
  else
    some (.b (x_1, out_1))

def p_ir_Uses (fuel : Nat) (i_1 : Ins) : Option ((List Int)) :=
  bindE (loopE fuel (fun s => p_ir_Uses_b1 fuel i_1 s.1 s.2) (0, ([] : List Int))) (fun (x_2, out_2) =>
  some out_2) some

def p_ir_Find_1 (fuel : Nat) (b_1 : Bl) (p_1 : ByteArray) : Option Bool :=
  some (decide (b_1.label = p_1))

def p_slices_IndexFunc_api_Block_api_Block_at_ir_Find_1_b1 (fuel : Nat) (s_1 : List Bl) (w1 : ByteArray) (x_1 : Int) : Option (Ex Int Int) :=
  if decide (x_1 < (s_1.length : Int)) = true then
    (idx s_1 x_1).bind fun x1 =>
    (p_ir_Find_1 fuel x1 w1).bind fun r1 =>
    if r1 = true then
      some (.r (x_1))
    else
      some (.n (IntKind.wrap .i64 (x_1 + 1)))
  else
    some (.b x_1)

def p_slices_IndexFunc_api_Block_api_Block_at_ir_Find_1 (fuel : Nat) (s_1 : List Bl) (w1 : ByteArray) : Option Int :=
  bindE (loopE fuel (fun s => p_slices_IndexFunc_api_Block_api_Block_at_ir_Find_1_b1 fuel s_1 w1 s) 0) (fun x_2 =>
  some (-1)) some

def p_ir_Find (fuel : Nat) (f_1 : Fnc) (label_1 : ByteArray) : Option Int :=
  (p_slices_IndexFunc_api_Block_api_Block_at_ir_Find_1 fuel f_1.blocks label_1).bind fun r1 =>
  some r1

def p_ir_Count_b1 (fuel : Nat) (f_1 : Fnc) (nv_1 : Int) (x_1 : Int) : Option (Ex (Int × Int) Int) :=
  if decide (x_1 < (f_1.blocks.length : Int)) = true then
    (idx f_1.blocks x_1).bind fun x1 =>
    some (.n (IntKind.wrap .i64 (nv_1 + (x1.code.length : Int)), IntKind.wrap .i64 (x_1 + 1)))
  else
    some (.b (nv_1, x_1))

def p_ir_Count (fuel : Nat) (f_1 : Fnc) : Option Int :=
  bindE (loopE fuel (fun s => p_ir_Count_b1 fuel f_1 s.1 s.2) (0, 0)) (fun (nv_2, x_2) =>
  some nv_2) some

def p_slices_Sort_string_string (fuel : Nat) (l : List ByteArray) : Option (List ByteArray) := if l.length ≤ 4294967296 then some (((l.map bstr).mergeSort fun x y => decide (x ≤ y)).map strb) else none

def p_slices_Compact_string_string (fuel : Nat) (l : List ByteArray) : Option (List ByteArray) := if l.length ≤ 4294967296 then some ((Lib.compact (l.map bstr)).map strb) else none

def p_ir_Calls_b2 (fuel : Nat) (x1 : Bl) (x_3 : Int) (out_3 : List ByteArray) : Option (Ex (Int × (List ByteArray)) (Ex (Int × (List ByteArray)) ((List ByteArray)))) :=
  if decide (x_3 < (x1.code.length : Int)) = true then
    ((idx x1.code x_3).bind fun x2 =>
    if decide (x2.op = 19) = true then
      (app out_3 ([x2.name] : List ByteArray)).bind fun l1 =>
      some l1
    else
      some out_3).bind fun out_5 =>
    some (.n (IntKind.wrap .i64 (x_3 + 1), out_5))
  else
    some (.b (x_3, out_3))

def p_ir_Calls_b1 (fuel : Nat) (f_1 : Fnc) (x_1 : Int) (out_1 : List ByteArray) : Option (Ex (Int × (List ByteArray)) ((List ByteArray))) :=
  if decide (x_1 < (f_1.blocks.length : Int)) = true then
    (idx f_1.blocks x_1).bind fun x1 =>
    bindE (loopE fuel (fun s => p_ir_Calls_b2 fuel x1 s.1 s.2) (0, out_1)) (fun (x_4, out_4) =>
    some (.n (IntKind.wrap .i64 (x_1 + 1), out_4))) some
  else
    some (.b (x_1, out_1))

def p_ir_Calls (fuel : Nat) (f_1 : Fnc) : Option ((List ByteArray)) :=
  bindE (loopE fuel (fun s => p_ir_Calls_b1 fuel f_1 s.1 s.2) (0, ([] : List ByteArray))) (fun (x_2, out_2) =>
  (p_slices_Sort_string_string fuel out_2).bind fun m3 =>
  (p_slices_Compact_string_string fuel m3).bind fun r1 =>
  some r1) some

def p_slices_Clone_api_Reg_api_Reg (fuel : Nat) (s : List Rg) : Option (List Rg) := app [] s

def p_ir_Copy_1 (fuel : Nat) (o_1 : Opd) : Option Opd :=
  some o_1

def p_ir_turned_at_ir_Copy_1_b1 (fuel : Nat) (l_1 : List Opd) (x_1 : Int) (out_1 : List Opd) : Option (Ex (Int × (List Opd)) ((List Opd))) :=
  if decide (x_1 < (l_1.length : Int)) = true then
    (idx l_1 x_1).bind fun x1 =>
    (p_ir_Copy_1 fuel x1).bind fun r1 =>
    (idx out_1 x_1).bind fun x2 =>
    (setI out_1 x_1 r1).bind fun l2 =>
    some (.n (IntKind.wrap .i64 (x_1 + 1), l2))
  else
    some (.b (x_1, out_1))

def p_ir_turned_at_ir_Copy_1 (fuel : Nat) (l_1 : List Opd) : Option ((List Opd)) :=
  (mk (l_1.length : Int) ((⟨0, 0, 0, 0⟩ : Opd) : Opd)).bind fun l1 =>
  bindE (loopE fuel (fun s => p_ir_turned_at_ir_Copy_1_b1 fuel l_1 s.1 s.2) (0, l1)) (fun (x_2, out_2) =>
  some out_2) some

def p_ir_CopyInstr (fuel : Nat) (i_1 : Ins) : Option Ins :=
  (mk (i_1.args.length : Int) ((⟨0, 0, 0, 0⟩ : Opd) : Opd)).bind fun l1 =>
  (some (cpy l1 i_1.args)).bind fun l2 =>
  (mk (i_1.labels.length : Int) ((⟨#[]⟩ : ByteArray) : ByteArray)).bind fun l3 =>
  (some (cpy l3 i_1.labels)).bind fun l4 =>
  (mk (i_1.cases.length : Int) (0 : Int)).bind fun l5 =>
  (some (cpy l5 i_1.cases)).bind fun l6 =>
  some (⟨i_1.op, i_1.dst, l2, i_1.name, i_1.off, l4, l6⟩ : Ins)

def p_ir_MapInstr_at_ir_Copy_1 (fuel : Nat) (i_1 : Ins) : Option Ins :=
  (p_ir_CopyInstr fuel i_1).bind fun r1 =>
  (p_ir_Copy_1 fuel i_1.dst).bind fun r2 =>
  (p_ir_turned_at_ir_Copy_1 fuel i_1.args).bind fun r3 =>
  some (⟨r1.op, r2, r3, r1.name, r1.off, r1.labels, r1.cases⟩ : Ins)

def p_ir_Map_at_ir_Copy_1_b2 (fuel : Nat) (x1 : Bl) (x_3 : Int) (code_1 : List Ins) : Option (Ex (Int × (List Ins)) (Ex (Int × (List Bl)) Fnc)) :=
  if decide (x_3 < (x1.code.length : Int)) = true then
    (idx x1.code x_3).bind fun x2 =>
    (p_ir_MapInstr_at_ir_Copy_1 fuel x2).bind fun r4 =>
    (idx code_1 x_3).bind fun x3 =>
    (setI code_1 x_3 r4).bind fun l3 =>
    some (.n (IntKind.wrap .i64 (x_3 + 1), l3))
  else
    some (.b (x_3, code_1))

def p_ir_Map_at_ir_Copy_1_b1 (fuel : Nat) (f_1 : Fnc) (x_1 : Int) (c1 : List Bl) : Option (Ex (Int × (List Bl)) Fnc) :=
  if decide (x_1 < (f_1.blocks.length : Int)) = true then
    (idx f_1.blocks x_1).bind fun x1 =>
    (p_ir_turned_at_ir_Copy_1 fuel x1.ins).bind fun r3 =>
    (mk (x1.code.length : Int) ((⟨0, (⟨0, 0, 0, 0⟩ : Opd), [], (⟨#[]⟩ : ByteArray), 0, [], []⟩ : Ins) : Ins)).bind fun l2 =>
    bindE (loopE fuel (fun s => p_ir_Map_at_ir_Copy_1_b2 fuel x1 s.1 s.2) (0, l2)) (fun (x_4, code_2) =>
    (idx c1 x_1).bind fun x4 =>
    (setI c1 x_1 (⟨x1.label, x1.edge, r3, code_2⟩ : Bl)).bind fun l4 =>
    some (.n (IntKind.wrap .i64 (x_1 + 1), l4))) some
  else
    some (.b (x_1, c1))

def p_ir_Map_at_ir_Copy_1 (fuel : Nat) (f_1 : Fnc) : Option Fnc :=
  (p_slices_Clone_api_Reg_api_Reg fuel f_1.regs).bind fun r1 =>
  (p_ir_turned_at_ir_Copy_1 fuel f_1.params).bind fun r2 =>
  (mk (f_1.blocks.length : Int) ((⟨(⟨#[]⟩ : ByteArray), false, [], []⟩ : Bl) : Bl)).bind fun l1 =>
  bindE (loopE fuel (fun s => p_ir_Map_at_ir_Copy_1_b1 fuel f_1 s.1 s.2) (0, l1)) (fun (x_2, c2) =>
  some (⟨f_1.machine, f_1.name, r1, r2, c2⟩ : Fnc)) some

def p_ir_Copy (fuel : Nat) (f_1 : Fnc) : Option Fnc :=
  (p_ir_Map_at_ir_Copy_1 fuel f_1).bind fun r1 =>
  some r1

def p_slices_Equal_api_Reg_api_Reg_b1 (fuel : Nat) (s1_1 : List Rg) (s2_1 : List Rg) (x_1 : Int) : Option (Ex Int Bool) :=
  if decide (x_1 < (s1_1.length : Int)) = true then
    (idx s1_1 x_1).bind fun x1 =>
    (idx s2_1 x_1).bind fun x2 =>
    if (!decide (x1 = x2)) = true then
      some (.r (false))
    else
      some (.n (IntKind.wrap .i64 (x_1 + 1)))
  else
    some (.b x_1)

def p_slices_Equal_api_Reg_api_Reg (fuel : Nat) (s1_1 : List Rg) (s2_1 : List Rg) : Option Bool :=
  if decide ((s1_1.length : Int) ≠ (s2_1.length : Int)) = true then
    some false
  else
    bindE (loopE fuel (fun s => p_slices_Equal_api_Reg_api_Reg_b1 fuel s1_1 s2_1 s) 0) (fun x_2 =>
    some true) some

def p_slices_Equal_api_Operand_api_Operand_b1 (fuel : Nat) (s1_1 : List Opd) (s2_1 : List Opd) (x_1 : Int) : Option (Ex Int Bool) :=
  if decide (x_1 < (s1_1.length : Int)) = true then
    (idx s1_1 x_1).bind fun x1 =>
    (idx s2_1 x_1).bind fun x2 =>
    if (!decide (x1 = x2)) = true then
      some (.r (false))
    else
      some (.n (IntKind.wrap .i64 (x_1 + 1)))
  else
    some (.b x_1)

def p_slices_Equal_api_Operand_api_Operand (fuel : Nat) (s1_1 : List Opd) (s2_1 : List Opd) : Option Bool :=
  if decide ((s1_1.length : Int) ≠ (s2_1.length : Int)) = true then
    some false
  else
    bindE (loopE fuel (fun s => p_slices_Equal_api_Operand_api_Operand_b1 fuel s1_1 s2_1 s) 0) (fun x_2 =>
    some true) some

def p_slices_Equal_string_string_b1 (fuel : Nat) (s1_1 : List ByteArray) (s2_1 : List ByteArray) (x_1 : Int) : Option (Ex Int Bool) :=
  if decide (x_1 < (s1_1.length : Int)) = true then
    (idx s1_1 x_1).bind fun x1 =>
    (idx s2_1 x_1).bind fun x2 =>
    if decide (x1 ≠ x2) = true then
      some (.r (false))
    else
      some (.n (IntKind.wrap .i64 (x_1 + 1)))
  else
    some (.b x_1)

def p_slices_Equal_string_string (fuel : Nat) (s1_1 : List ByteArray) (s2_1 : List ByteArray) : Option Bool :=
  if decide ((s1_1.length : Int) ≠ (s2_1.length : Int)) = true then
    some false
  else
    bindE (loopE fuel (fun s => p_slices_Equal_string_string_b1 fuel s1_1 s2_1 s) 0) (fun x_2 =>
    some true) some

def p_slices_Equal_int_int_b1 (fuel : Nat) (s1_1 : List Int) (s2_1 : List Int) (x_1 : Int) : Option (Ex Int Bool) :=
  if decide (x_1 < (s1_1.length : Int)) = true then
    (idx s1_1 x_1).bind fun x1 =>
    (idx s2_1 x_1).bind fun x2 =>
    if decide (x1 ≠ x2) = true then
      some (.r (false))
    else
      some (.n (IntKind.wrap .i64 (x_1 + 1)))
  else
    some (.b x_1)

def p_slices_Equal_int_int (fuel : Nat) (s1_1 : List Int) (s2_1 : List Int) : Option Bool :=
  if decide ((s1_1.length : Int) ≠ (s2_1.length : Int)) = true then
    some false
  else
    bindE (loopE fuel (fun s => p_slices_Equal_int_int_b1 fuel s1_1 s2_1 s) 0) (fun x_2 =>
    some true) some

def p_ir_SameInstr (fuel : Nat) (av_1 : Ins) (b_1 : Ins) : Option Bool :=
  (if ((((decide (av_1.op = b_1.op)) && (decide (av_1.dst = b_1.dst))) && (decide (av_1.name = b_1.name))) && (decide (av_1.off = b_1.off))) = true then (p_slices_Equal_api_Operand_api_Operand fuel av_1.args b_1.args).bind fun r1 =>
  some r1 else some false).bind fun b1 =>
  (if b1 = true then (p_slices_Equal_string_string fuel av_1.labels b_1.labels).bind fun r2 =>
  some r2 else some false).bind fun b2 =>
  (if b2 = true then (p_slices_Equal_int_int fuel av_1.cases b_1.cases).bind fun r3 =>
  some r3 else some false).bind fun b3 =>
  some b3

def p_slices_EqualFunc_api_Instr_api_Instr_api_Instr_api_Instr_at_ir_SameInstr_b1 (fuel : Nat) (s1_1 : List Ins) (s2_1 : List Ins) (x_1 : Int) : Option (Ex Int Bool) :=
  if decide (x_1 < (s1_1.length : Int)) = true then
    (idx s1_1 x_1).bind fun x1 =>
    (idx s2_1 x_1).bind fun x2 =>
    (p_ir_SameInstr fuel x1 x2).bind fun r1 =>
    if (!r1) = true then
      some (.r (false))
    else
      some (.n (IntKind.wrap .i64 (x_1 + 1)))
  else
    some (.b x_1)

def p_slices_EqualFunc_api_Instr_api_Instr_api_Instr_api_Instr_at_ir_SameInstr (fuel : Nat) (s1_1 : List Ins) (s2_1 : List Ins) : Option Bool :=
  if decide ((s1_1.length : Int) ≠ (s2_1.length : Int)) = true then
    some false
  else
    bindE (loopE fuel (fun s => p_slices_EqualFunc_api_Instr_api_Instr_api_Instr_api_Instr_at_ir_SameInstr_b1 fuel s1_1 s2_1 s) 0) (fun x_2 =>
    some true) some

def p_ir_sameBlock (fuel : Nat) (av_1 : Bl) (b_1 : Bl) : Option Bool :=
  (if ((decide (av_1.label = b_1.label)) && (av_1.edge == b_1.edge)) = true then (p_slices_Equal_api_Operand_api_Operand fuel av_1.ins b_1.ins).bind fun r1 =>
  some r1 else some false).bind fun b1 =>
  (if b1 = true then (p_slices_EqualFunc_api_Instr_api_Instr_api_Instr_api_Instr_at_ir_SameInstr fuel av_1.code b_1.code).bind fun r2 =>
  some r2 else some false).bind fun b2 =>
  some b2

def p_slices_EqualFunc_api_Block_api_Block_api_Block_api_Block_at_ir_sameBlock_b1 (fuel : Nat) (s1_1 : List Bl) (s2_1 : List Bl) (x_1 : Int) : Option (Ex Int Bool) :=
  if decide (x_1 < (s1_1.length : Int)) = true then
    (idx s1_1 x_1).bind fun x1 =>
    (idx s2_1 x_1).bind fun x2 =>
    (p_ir_sameBlock fuel x1 x2).bind fun r1 =>
    if (!r1) = true then
      some (.r (false))
    else
      some (.n (IntKind.wrap .i64 (x_1 + 1)))
  else
    some (.b x_1)

def p_slices_EqualFunc_api_Block_api_Block_api_Block_api_Block_at_ir_sameBlock (fuel : Nat) (s1_1 : List Bl) (s2_1 : List Bl) : Option Bool :=
  if decide ((s1_1.length : Int) ≠ (s2_1.length : Int)) = true then
    some false
  else
    bindE (loopE fuel (fun s => p_slices_EqualFunc_api_Block_api_Block_api_Block_api_Block_at_ir_sameBlock_b1 fuel s1_1 s2_1 s) 0) (fun x_2 =>
    some true) some

def p_ir_Same (fuel : Nat) (av_1 : Fnc) (b_1 : Fnc) : Option Bool :=
  (if ((av_1.machine == b_1.machine) && (decide (av_1.name = b_1.name))) = true then (p_slices_Equal_api_Reg_api_Reg fuel av_1.regs b_1.regs).bind fun r1 =>
  some r1 else some false).bind fun b1 =>
  (if b1 = true then (p_slices_Equal_api_Operand_api_Operand fuel av_1.params b_1.params).bind fun r2 =>
  some r2 else some false).bind fun b2 =>
  (if b2 = true then (p_slices_EqualFunc_api_Block_api_Block_api_Block_api_Block_at_ir_sameBlock fuel av_1.blocks b_1.blocks).bind fun r3 =>
  some r3 else some false).bind fun b3 =>
  some b3

def p_slices_Equal_api_Seg_api_Seg_b1 (fuel : Nat) (s1_1 : List Sg) (s2_1 : List Sg) (x_1 : Int) : Option (Ex Int Bool) :=
  if decide (x_1 < (s1_1.length : Int)) = true then
    (idx s1_1 x_1).bind fun x1 =>
    (idx s2_1 x_1).bind fun x2 =>
    if (!decide (x1 = x2)) = true then
      some (.r (false))
    else
      some (.n (IntKind.wrap .i64 (x_1 + 1)))
  else
    some (.b x_1)

def p_slices_Equal_api_Seg_api_Seg (fuel : Nat) (s1_1 : List Sg) (s2_1 : List Sg) : Option Bool :=
  if decide ((s1_1.length : Int) ≠ (s2_1.length : Int)) = true then
    some false
  else
    bindE (loopE fuel (fun s => p_slices_Equal_api_Seg_api_Seg_b1 fuel s1_1 s2_1 s) 0) (fun x_2 =>
    some true) some

def p_ir_SameAlloc (fuel : Nat) (av_1 : Al) (b_1 : Al) : Option Bool :=
  (if (decide (av_1.slots = b_1.slots)) = true then (p_slices_Equal_api_Seg_api_Seg fuel av_1.segs b_1.segs).bind fun r1 =>
  some r1 else some false).bind fun b1 =>
  some b1

def p_dyehouselaw12_works_b1 (fuel : Nat) (o1 : Opd) (c1 : Int) : Option (Ex Int Int) :=
  some (.n (IntKind.wrap .i64 (c1 + 1)))

def p_dyehouselaw12_works (fuel : Nat) : Option Bool :=
  (p_dyehouselaw12_works_1 fuel 2).bind fun r1 =>
  (p_dyehouselaw12_works_1 fuel 7).bind fun r2 =>
  (p_ir_Def fuel (⟨1, r1, ([r2, r2] : List Opd), (⟨#[]⟩ : ByteArray), 0, [], []⟩ : Ins)).bind fun (r3, r4) =>
  (p_ir_Class fuel (⟨false, (⟨#[102]⟩ : ByteArray), ([(⟨2, 0⟩ : Rg), (⟨7, 1⟩ : Rg)] : List Rg), ([r2] : List Opd), ([(⟨(⟨#[97]⟩ : ByteArray), false, ([] : List Opd), ([(⟨1, r1, ([r2, r2] : List Opd), (⟨#[]⟩ : ByteArray), 0, [], []⟩ : Ins), (⟨19, (⟨0, 0, 0, 0⟩ : Opd), [], (⟨#[113]⟩ : ByteArray), 0, [], []⟩ : Ins)] : List Ins)⟩ : Bl)] : List Bl)⟩ : Fnc) 7).bind fun (r5, r6) =>
  (p_ir_Put fuel (⟨2, 1, 3⟩ : Lc) 9).bind fun r7 =>
  (p_ir_At fuel r7).bind fun (r8, r9) =>
  (p_ir_Operands fuel (⟨false, (⟨#[102]⟩ : ByteArray), ([(⟨2, 0⟩ : Rg), (⟨7, 1⟩ : Rg)] : List Rg), ([r2] : List Opd), ([(⟨(⟨#[97]⟩ : ByteArray), false, ([] : List Opd), ([(⟨1, r1, ([r2, r2] : List Opd), (⟨#[]⟩ : ByteArray), 0, [], []⟩ : Ins), (⟨19, (⟨0, 0, 0, 0⟩ : Opd), [], (⟨#[113]⟩ : ByteArray), 0, [], []⟩ : Ins)] : List Ins)⟩ : Bl)] : List Bl)⟩ : Fnc)).bind fun r10 =>
  (l_ir_Operands fuel r10).bind fun xs1 =>
  bindX (rangeE (fun s x => p_dyehouselaw12_works_b1 fuel  x s) 0 xs1) (fun c2 =>
    (p_ir_Uses fuel (⟨1, r1, ([r2, r2] : List Opd), (⟨#[]⟩ : ByteArray), 0, [], []⟩ : Ins)).bind fun r11 =>
    (if (((((decide ((r11.length : Int) = 1)) && (decide (r3 = 2))) && r4) && (decide (r5 = 1))) && r6) = true then (p_ir_Find fuel (⟨false, (⟨#[102]⟩ : ByteArray), ([(⟨2, 0⟩ : Rg), (⟨7, 1⟩ : Rg)] : List Rg), ([r2] : List Opd), ([(⟨(⟨#[97]⟩ : ByteArray), false, ([] : List Opd), ([(⟨1, r1, ([r2, r2] : List Opd), (⟨#[]⟩ : ByteArray), 0, [], []⟩ : Ins), (⟨19, (⟨0, 0, 0, 0⟩ : Opd), [], (⟨#[113]⟩ : ByteArray), 0, [], []⟩ : Ins)] : List Ins)⟩ : Bl)] : List Bl)⟩ : Fnc) (⟨#[97]⟩ : ByteArray)).bind fun r12 =>
    some (decide (r12 = 0)) else some false).bind fun b1 =>
    (if b1 = true then (p_ir_Count fuel (⟨false, (⟨#[102]⟩ : ByteArray), ([(⟨2, 0⟩ : Rg), (⟨7, 1⟩ : Rg)] : List Rg), ([r2] : List Opd), ([(⟨(⟨#[97]⟩ : ByteArray), false, ([] : List Opd), ([(⟨1, r1, ([r2, r2] : List Opd), (⟨#[]⟩ : ByteArray), 0, [], []⟩ : Ins), (⟨19, (⟨0, 0, 0, 0⟩ : Opd), [], (⟨#[113]⟩ : ByteArray), 0, [], []⟩ : Ins)] : List Ins)⟩ : Bl)] : List Bl)⟩ : Fnc)).bind fun r13 =>
    some (decide (r13 = 2)) else some false).bind fun b2 =>
    (if b2 = true then (p_ir_Calls fuel (⟨false, (⟨#[102]⟩ : ByteArray), ([(⟨2, 0⟩ : Rg), (⟨7, 1⟩ : Rg)] : List Rg), ([r2] : List Opd), ([(⟨(⟨#[97]⟩ : ByteArray), false, ([] : List Opd), ([(⟨1, r1, ([r2, r2] : List Opd), (⟨#[]⟩ : ByteArray), 0, [], []⟩ : Ins), (⟨19, (⟨0, 0, 0, 0⟩ : Opd), [], (⟨#[113]⟩ : ByteArray), 0, [], []⟩ : Ins)] : List Ins)⟩ : Bl)] : List Bl)⟩ : Fnc)).bind fun r14 =>
    some (decide ((r14.length : Int) = 1)) else some false).bind fun b3 =>
    (if (b3 && (decide (c2 = 5))) = true then (p_ir_Copy fuel (⟨false, (⟨#[102]⟩ : ByteArray), ([(⟨2, 0⟩ : Rg), (⟨7, 1⟩ : Rg)] : List Rg), ([r2] : List Opd), ([(⟨(⟨#[97]⟩ : ByteArray), false, ([] : List Opd), ([(⟨1, r1, ([r2, r2] : List Opd), (⟨#[]⟩ : ByteArray), 0, [], []⟩ : Ins), (⟨19, (⟨0, 0, 0, 0⟩ : Opd), [], (⟨#[113]⟩ : ByteArray), 0, [], []⟩ : Ins)] : List Ins)⟩ : Bl)] : List Bl)⟩ : Fnc)).bind fun r15 =>
    (p_ir_Same fuel (⟨false, (⟨#[102]⟩ : ByteArray), ([(⟨2, 0⟩ : Rg), (⟨7, 1⟩ : Rg)] : List Rg), ([r2] : List Opd), ([(⟨(⟨#[97]⟩ : ByteArray), false, ([] : List Opd), ([(⟨1, r1, ([r2, r2] : List Opd), (⟨#[]⟩ : ByteArray), 0, [], []⟩ : Ins), (⟨19, (⟨0, 0, 0, 0⟩ : Opd), [], (⟨#[113]⟩ : ByteArray), 0, [], []⟩ : Ins)] : List Ins)⟩ : Bl)] : List Bl)⟩ : Fnc) r15).bind fun r16 =>
    some r16 else some false).bind fun b4 =>
    (if ((b4 && (decide (r8.n = 3))) && r9) = true then (p_ir_CopyInstr fuel (⟨1, r1, ([r2, r2] : List Opd), (⟨#[]⟩ : ByteArray), 0, [], []⟩ : Ins)).bind fun r17 =>
    (p_ir_SameInstr fuel (⟨1, r1, ([r2, r2] : List Opd), (⟨#[]⟩ : ByteArray), 0, [], []⟩ : Ins) r17).bind fun r18 =>
    some r18 else some false).bind fun b5 =>
    (if b5 = true then (p_ir_SameAlloc fuel (⟨1, []⟩ : Al) (⟨0, []⟩ : Al)).bind fun r19 =>
    some (!r19) else some false).bind fun b6 =>
    some b6) (fun _ => none) (fun _ => none)

def p_dyehouseref12_Class_b1 (fuel : Nat) (f_1 : Fnc) (v_1 : Int) (i1 : Int) : Option (Ex Unit Int) :=
  (idx f_1.regs i1).bind fun x1 =>
  if decide (x1.id = v_1) = true then
    some (.r (x1.cls))
  else
    some (.n ())

def p_dyehouseref12_Class (fuel : Nat) (f_1 : Fnc) (v_1 : Int) : Option Int :=
  bindE (toE 0 (f_1.regs.length : Int) (fun i _ => p_dyehouseref12_Class_b1 fuel f_1 v_1 i) ()) (fun _ =>
  some (-1)) some

def p_dyehouselaw12_IrAsks_1 (fuel : Nat) (o_1 : Opd) : Option Opd :=
  some (⟨o_1.kind, o_1.cls, o_1.tag, o_1.n⟩ : Opd)

def p_ir_turned_at_dyehouselaw12_IrAsks_1_b1 (fuel : Nat) (l_1 : List Opd) (x_1 : Int) (out_1 : List Opd) : Option (Ex (Int × (List Opd)) ((List Opd))) :=
  if decide (x_1 < (l_1.length : Int)) = true then
    (idx l_1 x_1).bind fun x1 =>
    (p_dyehouselaw12_IrAsks_1 fuel x1).bind fun r1 =>
    (idx out_1 x_1).bind fun x2 =>
    (setI out_1 x_1 r1).bind fun l2 =>
    some (.n (IntKind.wrap .i64 (x_1 + 1), l2))
  else
    some (.b (x_1, out_1))

def p_ir_turned_at_dyehouselaw12_IrAsks_1 (fuel : Nat) (l_1 : List Opd) : Option ((List Opd)) :=
  (mk (l_1.length : Int) ((⟨0, 0, 0, 0⟩ : Opd) : Opd)).bind fun l1 =>
  bindE (loopE fuel (fun s => p_ir_turned_at_dyehouselaw12_IrAsks_1_b1 fuel l_1 s.1 s.2) (0, l1)) (fun (x_2, out_2) =>
  some out_2) some

def p_ir_MapInstr_at_dyehouselaw12_IrAsks_1 (fuel : Nat) (i_1 : Ins) : Option Ins :=
  (p_ir_CopyInstr fuel i_1).bind fun r1 =>
  (p_dyehouselaw12_IrAsks_1 fuel i_1.dst).bind fun r2 =>
  (p_ir_turned_at_dyehouselaw12_IrAsks_1 fuel i_1.args).bind fun r3 =>
  some (⟨r1.op, r2, r3, r1.name, r1.off, r1.labels, r1.cases⟩ : Ins)

def p_dyehouselaw12_IrAsks_2 (fuel : Nat) (o_1 : Opd) : Option Opd :=
  some (⟨o_1.kind, o_1.cls, o_1.tag, o_1.n⟩ : Opd)

def p_ir_turned_at_dyehouselaw12_IrAsks_2_b1 (fuel : Nat) (l_1 : List Opd) (x_1 : Int) (out_1 : List Opd) : Option (Ex (Int × (List Opd)) ((List Opd))) :=
  if decide (x_1 < (l_1.length : Int)) = true then
    (idx l_1 x_1).bind fun x1 =>
    (p_dyehouselaw12_IrAsks_2 fuel x1).bind fun r1 =>
    (idx out_1 x_1).bind fun x2 =>
    (setI out_1 x_1 r1).bind fun l2 =>
    some (.n (IntKind.wrap .i64 (x_1 + 1), l2))
  else
    some (.b (x_1, out_1))

def p_ir_turned_at_dyehouselaw12_IrAsks_2 (fuel : Nat) (l_1 : List Opd) : Option ((List Opd)) :=
  (mk (l_1.length : Int) ((⟨0, 0, 0, 0⟩ : Opd) : Opd)).bind fun l1 =>
  bindE (loopE fuel (fun s => p_ir_turned_at_dyehouselaw12_IrAsks_2_b1 fuel l_1 s.1 s.2) (0, l1)) (fun (x_2, out_2) =>
  some out_2) some

def p_ir_MapInstr_at_dyehouselaw12_IrAsks_2 (fuel : Nat) (i_1 : Ins) : Option Ins :=
  (p_ir_CopyInstr fuel i_1).bind fun r1 =>
  (p_dyehouselaw12_IrAsks_2 fuel i_1.dst).bind fun r2 =>
  (p_ir_turned_at_dyehouselaw12_IrAsks_2 fuel i_1.args).bind fun r3 =>
  some (⟨r1.op, r2, r3, r1.name, r1.off, r1.labels, r1.cases⟩ : Ins)

def p_dyehouseref12_Value (fuel : Nat) (o_1 : Opd) : Option (Int × Bool) :=
  if decide (o_1.kind = 1) = true then
    some (o_1.n, true)
  else
    some (o_1.tag, ((decide (o_1.kind = 2)) || (decide (o_1.kind = 3))))

def p_dyehouseref12_same_b1 (fuel : Nat) (av_1 : List Opd) (b_1 : List Opd) (i1 : Int) : Option (Ex Unit Bool) :=
  (idx av_1 i1).bind fun x1 =>
  (idx b_1 i1).bind fun x2 =>
  if (!decide (x1 = x2)) = true then
    some (.r (false))
  else
    some (.n ())

def p_dyehouseref12_same (fuel : Nat) (av_1 : List Opd) (b_1 : List Opd) : Option Bool :=
  if decide ((av_1.length : Int) ≠ (b_1.length : Int)) = true then
    some false
  else
    bindE (toE 0 (av_1.length : Int) (fun i _ => p_dyehouseref12_same_b1 fuel av_1 b_1 i) ()) (fun _ =>
    some true) some

def p_dyehouseref12_Texts_b1 (fuel : Nat) (av_1 : List ByteArray) (b_1 : List ByteArray) (i1 : Int) : Option (Ex Unit Bool) :=
  (idx av_1 i1).bind fun x1 =>
  (idx b_1 i1).bind fun x2 =>
  if decide (x1 ≠ x2) = true then
    some (.r (false))
  else
    some (.n ())

def p_dyehouseref12_Texts (fuel : Nat) (av_1 : List ByteArray) (b_1 : List ByteArray) : Option Bool :=
  if decide ((av_1.length : Int) ≠ (b_1.length : Int)) = true then
    some false
  else
    bindE (toE 0 (av_1.length : Int) (fun i _ => p_dyehouseref12_Texts_b1 fuel av_1 b_1 i) ()) (fun _ =>
    some true) some

def p_dyehouseref12_Ints_b1 (fuel : Nat) (av_1 : List Int) (b_1 : List Int) (i1 : Int) : Option (Ex Unit Bool) :=
  (idx av_1 i1).bind fun x1 =>
  (idx b_1 i1).bind fun x2 =>
  if decide (x1 ≠ x2) = true then
    some (.r (false))
  else
    some (.n ())

def p_dyehouseref12_Ints (fuel : Nat) (av_1 : List Int) (b_1 : List Int) : Option Bool :=
  if decide ((av_1.length : Int) ≠ (b_1.length : Int)) = true then
    some false
  else
    bindE (toE 0 (av_1.length : Int) (fun i _ => p_dyehouseref12_Ints_b1 fuel av_1 b_1 i) ()) (fun _ =>
    some true) some

def p_dyehouseref12_Instr (fuel : Nat) (av_1 : Ins) (b_1 : Ins) : Option Bool :=
  (if ((decide (av_1.op = b_1.op)) && (decide (av_1.dst = b_1.dst))) = true then (p_dyehouseref12_same fuel av_1.args b_1.args).bind fun r1 =>
  some r1 else some false).bind fun b1 =>
  (if ((b1 && (decide (av_1.name = b_1.name))) && (decide (av_1.off = b_1.off))) = true then (p_dyehouseref12_Texts fuel av_1.labels b_1.labels).bind fun r2 =>
  some r2 else some false).bind fun b2 =>
  (if b2 = true then (p_dyehouseref12_Ints fuel av_1.cases b_1.cases).bind fun r3 =>
  some r3 else some false).bind fun b3 =>
  some b3

def p_dyehouseref12_In_b1 (fuel : Nat) (l_1 : List Int) (nv_1 : Int) (i1 : Int) : Option (Ex Unit Bool) :=
  (idx l_1 i1).bind fun x1 =>
  if decide (x1 = nv_1) = true then
    some (.r (true))
  else
    some (.n ())

def p_dyehouseref12_In (fuel : Nat) (l_1 : List Int) (nv_1 : Int) : Option Bool :=
  bindE (toE 0 (l_1.length : Int) (fun i _ => p_dyehouseref12_In_b1 fuel l_1 nv_1 i) ()) (fun _ =>
  some false) some

def p_dyehouseref12_Uses_b1 (fuel : Nat) (x_1 : Ins) (i1 : Int) (out_1 : List Int) : Option ((List Int)) :=
  (idx x_1.args i1).bind fun x1 =>
  (p_dyehouseref12_Value fuel x1).bind fun (r1, r2) =>
  (if r2 = true then (p_dyehouseref12_In fuel out_1 r1).bind fun r3 =>
  some (!r3) else some false).bind fun b1 =>
  if b1 = true then
    (app out_1 ([r1] : List Int)).bind fun l1 =>
    some l1
  else
    some out_1

def p_dyehouseref12_Uses (fuel : Nat) (x_1 : Ins) : Option ((List Int)) :=
  (toN 0 (x_1.args.length : Int) (fun i s => p_dyehouseref12_Uses_b1 fuel x_1 i s) ([] : List Int)).bind fun out_2 =>
  some out_2

def p_dyehouseref12_Find_b1 (fuel : Nat) (f_1 : Fnc) (label_1 : ByteArray) (i1 : Int) : Option (Ex Unit Int) :=
  (idx f_1.blocks i1).bind fun x1 =>
  if decide (x1.label = label_1) = true then
    some (.r (i1))
  else
    some (.n ())

def p_dyehouseref12_Find (fuel : Nat) (f_1 : Fnc) (label_1 : ByteArray) : Option Int :=
  bindE (toE 0 (f_1.blocks.length : Int) (fun i _ => p_dyehouseref12_Find_b1 fuel f_1 label_1 i) ()) (fun _ =>
  some (-1)) some

def p_dyehouselaw12_IrAsks_b3 (fuel : Nat) (r6 : List ByteArray) (x2 : Ins) (i3 : Int) (met_1 : Bool) : Option Bool :=
  (if met_1 = true then some true else (idx r6 i3).bind fun x3 =>
  some (decide (x3 = x2.name))).bind fun b2 =>
  some b2

def p_dyehouselaw12_IrAsks_b2 (fuel : Nat) (r6 : List ByteArray) (x1 : Bl) (i2 : Int) (nv_3 : Int) : Option (Ex Int (Ex Int Bool)) :=
  (idx x1.code i2).bind fun x2 =>
  (p_ir_MapInstr_at_dyehouselaw12_IrAsks_1 fuel x2).bind fun r7 =>
  (p_ir_MapInstr_at_dyehouselaw12_IrAsks_2 fuel r7).bind fun r8 =>
  (p_ir_Value fuel x2.dst).bind fun (r9, r10) =>
  (p_dyehouseref12_Value fuel x2.dst).bind fun (r11, r12) =>
  (p_dyehouseref12_Instr fuel x2 r8).bind fun r13 =>
  if (((((!r13) || (decide (r7.dst.n ≠ x2.dst.tag))) || (r10 != r12)) || (r10 && (decide (r9 ≠ r11)))) || ((!r10) && (decide (r9 ≠ 0)))) = true then
    some (.r (.r (false)))
  else
    (p_ir_Def fuel x2).bind fun (r14, r15) =>
    (if ((decide (r14 ≠ r9)) || (r15 != r10)) = true then some true else (p_ir_Uses fuel x2).bind fun r16 =>
    (p_dyehouseref12_Uses fuel x2).bind fun r17 =>
    (p_dyehouseref12_Ints fuel r16 r17).bind fun r18 =>
    some (!r18)).bind fun b1 =>
    if b1 = true then
      some (.r (.r (false)))
    else
      (toN 0 (r6.length : Int) (fun i s => p_dyehouselaw12_IrAsks_b3 fuel r6 x2 i s) false).bind fun met_2 =>
      if ((decide (x2.op = 19)) && (!met_2)) = true then
        some (.r (.r (false)))
      else
        some (.n (IntKind.wrap .i64 (nv_3 + 1)))

def p_dyehouselaw12_IrAsks_b1 (fuel : Nat) (f_1 : Fnc) (r6 : List ByteArray) (i1 : Int) (nv_1 : Int) : Option (Ex Int Bool) :=
  (idx f_1.blocks i1).bind fun x1 =>
  bindE (toE 0 (x1.code.length : Int) (fun i s => p_dyehouselaw12_IrAsks_b2 fuel r6 x1 i s) nv_1) (fun nv_4 =>
  some (.n nv_4)) some

def p_dyehouselaw12_IrAsks_b4 (fuel : Nat) (r6 : List ByteArray) (i4 : Int) : Option (Ex Unit Bool) :=
  (idx r6 (IntKind.wrap .i64 (i4 - 1))).bind fun x4 =>
  (idx r6 i4).bind fun x5 =>
  if (!slt x4 x5) = true then
    some (.r (false))
  else
    some (.n ())

def p_dyehouselaw12_IrAsks_b5 (fuel : Nat) (f_1 : Fnc) (v_1 : Int) (i5 : Int) (has_1 : Bool) : Option Bool :=
  (if has_1 = true then some true else (idx f_1.regs i5).bind fun x6 =>
  some (decide (x6.id = v_1))).bind fun b3 =>
  some b3

def p_dyehouselaw12_IrAsks (fuel : Nat) (f_1 : Fnc) (v_1 : Int) (label_1 : ByteArray) : Option Bool :=
  (p_dyehouseref12_Large fuel f_1).bind fun r1 =>
  if (r1 || (decide (100 < (label_1.size : Int)))) = true then
    (p_dyehouselaw12_works fuel).bind fun r2 =>
    some r2
  else
    (p_ir_Class fuel f_1 v_1).bind fun (r3, r4) =>
    (p_dyehouseref12_Class fuel f_1 v_1).bind fun r5 =>
    (p_ir_Calls fuel f_1).bind fun r6 =>
    bindE (toE 0 (f_1.blocks.length : Int) (fun i s => p_dyehouselaw12_IrAsks_b1 fuel f_1 r6 i s) 0) (fun nv_2 =>
    bindE (toE 1 (r6.length : Int) (fun i _ => p_dyehouselaw12_IrAsks_b4 fuel r6 i) ()) (fun _ =>
    (toN 0 (f_1.regs.length : Int) (fun i s => p_dyehouselaw12_IrAsks_b5 fuel f_1 v_1 i s) false).bind fun has_2 =>
    (if ((r4 == has_2) && ((has_2 && (decide (r3 = r5))) || ((!has_2) && (decide (r3 = 0))))) = true then (p_ir_Find fuel f_1 label_1).bind fun r19 =>
    (p_dyehouseref12_Find fuel f_1 label_1).bind fun r20 =>
    some (decide (r19 = r20)) else some false).bind fun b4 =>
    (if b4 = true then (p_ir_Count fuel f_1).bind fun r21 =>
    some (decide (r21 = nv_2)) else some false).bind fun b5 =>
    (if (b5 && (decide ((r6.length : Int) ≤ nv_2))) = true then (p_dyehouselaw12_works fuel).bind fun r22 =>
    some r22 else some false).bind fun b6 =>
    some b6) some) some

end Go.Proofs.Ytodafoajkajnkaa.PL
