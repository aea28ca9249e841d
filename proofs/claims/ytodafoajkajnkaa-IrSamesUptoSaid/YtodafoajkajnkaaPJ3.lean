/- The pure law IrSames is true. Printed by gen_pj.py. -/
import Derived.Test.YtodafoajkajnkaaPJ0
import Derived.Test.YtodafoajkajnkaaPJ2
set_option linter.unusedVariables false
set_option linter.unusedSimpArgs false
set_option maxRecDepth 100000
namespace Go.Proofs.Ytodafoajkajnkaa.PL
open Go
theorem eRegs {a b : List Rg} (hn : a.length ≤ 1048576) {fuel : Nat} (hf : 1048576 < fuel) : p_slices_Equal_api_Reg_api_Reg fuel a b = some (decide (a = b)) := by
  unfold p_slices_Equal_api_Reg_api_Reg
  by_cases hl : a.length = b.length
  · rw [if_neg (by simp [hl]), loop_eq hl (fun i x y hx hy => ?_) ?_ (by omega)]
    · by_cases e : a = b <;> simp [e, bindE]
    · unfold p_slices_Equal_api_Reg_api_Reg_b1
      rw [if_neg (by simp)]
    · have hi : i < a.length := (List.getElem?_eq_some_iff.1 hx).1
      unfold p_slices_Equal_api_Reg_api_Reg_b1
      rw [if_pos (decide_eq_true (by omega)), idx_nat hx, Option.bind_some, idx_nat hy, Option.bind_some, wrap1 (by omega)]
      by_cases e : x = y <;> simp [e]
  · rw [if_pos (by simp; omega)]
    have : a ≠ b := fun h => hl (h ▸ rfl)
    simp [this]
theorem eOpds {a b : List Opd} (hn : a.length ≤ 1048576) {fuel : Nat} (hf : 1048576 < fuel) : p_slices_Equal_api_Operand_api_Operand fuel a b = some (decide (a = b)) := by
  unfold p_slices_Equal_api_Operand_api_Operand
  by_cases hl : a.length = b.length
  · rw [if_neg (by simp [hl]), loop_eq hl (fun i x y hx hy => ?_) ?_ (by omega)]
    · by_cases e : a = b <;> simp [e, bindE]
    · unfold p_slices_Equal_api_Operand_api_Operand_b1
      rw [if_neg (by simp)]
    · have hi : i < a.length := (List.getElem?_eq_some_iff.1 hx).1
      unfold p_slices_Equal_api_Operand_api_Operand_b1
      rw [if_pos (decide_eq_true (by omega)), idx_nat hx, Option.bind_some, idx_nat hy, Option.bind_some, wrap1 (by omega)]
      by_cases e : x = y <;> simp [e]
  · rw [if_pos (by simp; omega)]
    have : a ≠ b := fun h => hl (h ▸ rfl)
    simp [this]
theorem eTexts {a b : List ByteArray} (hn : a.length ≤ 1048576) {fuel : Nat} (hf : 1048576 < fuel) : p_slices_Equal_string_string fuel a b = some (decide (a = b)) := by
  unfold p_slices_Equal_string_string
  by_cases hl : a.length = b.length
  · rw [if_neg (by simp [hl]), loop_eq hl (fun i x y hx hy => ?_) ?_ (by omega)]
    · by_cases e : a = b <;> simp [e, bindE]
    · unfold p_slices_Equal_string_string_b1
      rw [if_neg (by simp)]
    · have hi : i < a.length := (List.getElem?_eq_some_iff.1 hx).1
      unfold p_slices_Equal_string_string_b1
      rw [if_pos (decide_eq_true (by omega)), idx_nat hx, Option.bind_some, idx_nat hy, Option.bind_some, wrap1 (by omega)]
      by_cases e : x = y <;> simp [e]
  · rw [if_pos (by simp; omega)]
    have : a ≠ b := fun h => hl (h ▸ rfl)
    simp [this]
theorem eInts {a b : List Int} (hn : a.length ≤ 1048576) {fuel : Nat} (hf : 1048576 < fuel) : p_slices_Equal_int_int fuel a b = some (decide (a = b)) := by
  unfold p_slices_Equal_int_int
  by_cases hl : a.length = b.length
  · rw [if_neg (by simp [hl]), loop_eq hl (fun i x y hx hy => ?_) ?_ (by omega)]
    · by_cases e : a = b <;> simp [e, bindE]
    · unfold p_slices_Equal_int_int_b1
      rw [if_neg (by simp)]
    · have hi : i < a.length := (List.getElem?_eq_some_iff.1 hx).1
      unfold p_slices_Equal_int_int_b1
      rw [if_pos (decide_eq_true (by omega)), idx_nat hx, Option.bind_some, idx_nat hy, Option.bind_some, wrap1 (by omega)]
      by_cases e : x = y <;> simp [e]
  · rw [if_pos (by simp; omega)]
    have : a ≠ b := fun h => hl (h ▸ rfl)
    simp [this]
theorem eSegs {a b : List Sg} (hn : a.length ≤ 1048576) {fuel : Nat} (hf : 1048576 < fuel) : p_slices_Equal_api_Seg_api_Seg fuel a b = some (decide (a = b)) := by
  unfold p_slices_Equal_api_Seg_api_Seg
  by_cases hl : a.length = b.length
  · rw [if_neg (by simp [hl]), loop_eq hl (fun i x y hx hy => ?_) ?_ (by omega)]
    · by_cases e : a = b <;> simp [e, bindE]
    · unfold p_slices_Equal_api_Seg_api_Seg_b1
      rw [if_neg (by simp)]
    · have hi : i < a.length := (List.getElem?_eq_some_iff.1 hx).1
      unfold p_slices_Equal_api_Seg_api_Seg_b1
      rw [if_pos (decide_eq_true (by omega)), idx_nat hx, Option.bind_some, idx_nat hy, Option.bind_some, wrap1 (by omega)]
      by_cases e : x = y <;> simp [e]
  · rw [if_pos (by simp; omega)]
    have : a ≠ b := fun h => hl (h ▸ rfl)
    simp [this]
theorem eInstr {a b : Ins} (h : iIr a) {fuel : Nat} (hf : 1048576 < fuel) : p_ir_SameInstr fuel a b = some (decide (a = b)) := by
  unfold p_ir_SameInstr
  rw [eOpds h.1 hf, eTexts h.2.1 hf, eInts h.2.2 hf]
  obtain ⟨a0, a1, a2, a3, a4, a5, a6⟩ := a
  obtain ⟨b0, b1, b2, b3, b4, b5, b6⟩ := b
  simp only [Ins.mk.injEq] at *
  by_cases c0 : a0 = b0 <;> by_cases c1 : a1 = b1 <;> by_cases c2 : a2 = b2 <;> by_cases c3 : a3 = b3 <;> by_cases c4 : a4 = b4 <;> by_cases c5 : a5 = b5 <;> by_cases c6 : a6 = b6 <;> simp [c0, c1, c2, c3, c4, c5, c6, Option.bind_some]
theorem eCode {a b : List Ins} (hn : a.length ≤ 1048576) (hb : ∀ x ∈ a, iIr x) {fuel : Nat} (hf : 1048576 < fuel) : p_slices_EqualFunc_api_Instr_api_Instr_api_Instr_api_Instr_at_ir_SameInstr fuel a b = some (decide (a = b)) := by
  unfold p_slices_EqualFunc_api_Instr_api_Instr_api_Instr_api_Instr_at_ir_SameInstr
  by_cases hl : a.length = b.length
  · rw [if_neg (by simp [hl]), loop_eq hl (fun i x y hx hy => ?_) ?_ (by omega)]
    · by_cases e : a = b <;> simp [e, bindE]
    · unfold p_slices_EqualFunc_api_Instr_api_Instr_api_Instr_api_Instr_at_ir_SameInstr_b1
      rw [if_neg (by simp)]
    · have hi : i < a.length := (List.getElem?_eq_some_iff.1 hx).1
      unfold p_slices_EqualFunc_api_Instr_api_Instr_api_Instr_api_Instr_at_ir_SameInstr_b1
      rw [if_pos (decide_eq_true (by omega)), idx_nat hx, Option.bind_some, idx_nat hy, Option.bind_some, eInstr (hb x (List.mem_of_getElem? hx)) hf, Option.bind_some, wrap1 (by omega)]
      by_cases e : x = y <;> simp [e]
  · rw [if_pos (by simp; omega)]
    have : a ≠ b := fun h => hl (h ▸ rfl)
    simp [this]
theorem eBlock {a b : Bl} (h : bIr a) {fuel : Nat} (hf : 1048576 < fuel) : p_ir_sameBlock fuel a b = some (decide (a = b)) := by
  unfold p_ir_sameBlock
  rw [eOpds h.1 hf, eCode h.2.1 h.2.2 hf]
  obtain ⟨a0, a1, a2, a3⟩ := a
  obtain ⟨b0, b1, b2, b3⟩ := b
  simp only [Bl.mk.injEq] at *
  by_cases c0 : a0 = b0 <;> by_cases c1 : a1 = b1 <;> by_cases c2 : a2 = b2 <;> by_cases c3 : a3 = b3 <;> simp [c0, c1, c2, c3, Option.bind_some]
theorem eBlocks {a b : List Bl} (hn : a.length ≤ 1048576) (hb : ∀ x ∈ a, bIr x) {fuel : Nat} (hf : 1048576 < fuel) : p_slices_EqualFunc_api_Block_api_Block_api_Block_api_Block_at_ir_sameBlock fuel a b = some (decide (a = b)) := by
  unfold p_slices_EqualFunc_api_Block_api_Block_api_Block_api_Block_at_ir_sameBlock
  by_cases hl : a.length = b.length
  · rw [if_neg (by simp [hl]), loop_eq hl (fun i x y hx hy => ?_) ?_ (by omega)]
    · by_cases e : a = b <;> simp [e, bindE]
    · unfold p_slices_EqualFunc_api_Block_api_Block_api_Block_api_Block_at_ir_sameBlock_b1
      rw [if_neg (by simp)]
    · have hi : i < a.length := (List.getElem?_eq_some_iff.1 hx).1
      unfold p_slices_EqualFunc_api_Block_api_Block_api_Block_api_Block_at_ir_sameBlock_b1
      rw [if_pos (decide_eq_true (by omega)), idx_nat hx, Option.bind_some, idx_nat hy, Option.bind_some, eBlock (hb x (List.mem_of_getElem? hx)) hf, Option.bind_some, wrap1 (by omega)]
      by_cases e : x = y <;> simp [e]
  · rw [if_pos (by simp; omega)]
    have : a ≠ b := fun h => hl (h ▸ rfl)
    simp [this]
theorem eFunc {a b : Fnc} (h : fIr a) {fuel : Nat} (hf : 1048576 < fuel) : p_ir_Same fuel a b = some (decide (a = b)) := by
  unfold p_ir_Same
  rw [eRegs h.1 hf, eOpds h.2.1 hf, eBlocks h.2.2.1 h.2.2.2 hf]
  obtain ⟨a0, a1, a2, a3, a4⟩ := a
  obtain ⟨b0, b1, b2, b3, b4⟩ := b
  simp only [Fnc.mk.injEq] at *
  by_cases c0 : a0 = b0 <;> by_cases c1 : a1 = b1 <;> by_cases c2 : a2 = b2 <;> by_cases c3 : a3 = b3 <;> by_cases c4 : a4 = b4 <;> simp [c0, c1, c2, c3, c4, Option.bind_some]
theorem eAlloc {a b : Al} (h : a.segs.length ≤ 1048576) {fuel : Nat} (hf : 1048576 < fuel) : p_ir_SameAlloc fuel a b = some (decide (a = b)) := by
  unfold p_ir_SameAlloc
  rw [eSegs h hf]
  obtain ⟨a0, a1⟩ := a
  obtain ⟨b0, b1⟩ := b
  simp only [Al.mk.injEq] at *
  by_cases c0 : a0 = b0 <;> by_cases c1 : a1 = b1 <;> simp [c0, c1, Option.bind_some]
theorem rInts {a b : List Int} (hn : a.length ≤ 1048576) {fuel : Nat} : p_dyehouseref12_Ints fuel a b = some (decide (a = b)) := by
  unfold p_dyehouseref12_Ints
  by_cases hl : a.length = b.length
  · rw [if_neg (by simp [hl]), toE_eq hl (by omega) (fun i x y hx hy => ?_)]
    · by_cases e : a = b <;> simp [e, bindE]
    · unfold p_dyehouseref12_Ints_b1
      rw [idx_nat hx, Option.bind_some, idx_nat hy, Option.bind_some]
      by_cases e : x = y <;> simp [e]
  · rw [if_pos (by simp; omega)]
    have : a ≠ b := fun h => hl (h ▸ rfl)
    simp [this]
theorem rOpds {a b : List Opd} (hn : a.length ≤ 1048576) {fuel : Nat} : p_dyehouseref12_same fuel a b = some (decide (a = b)) := by
  unfold p_dyehouseref12_same
  by_cases hl : a.length = b.length
  · rw [if_neg (by simp [hl]), toE_eq hl (by omega) (fun i x y hx hy => ?_)]
    · by_cases e : a = b <;> simp [e, bindE]
    · unfold p_dyehouseref12_same_b1
      rw [idx_nat hx, Option.bind_some, idx_nat hy, Option.bind_some]
      by_cases e : x = y <;> simp [e]
  · rw [if_pos (by simp; omega)]
    have : a ≠ b := fun h => hl (h ▸ rfl)
    simp [this]
theorem rTexts {a b : List ByteArray} (hn : a.length ≤ 1048576) {fuel : Nat} : p_dyehouseref12_Texts fuel a b = some (decide (a = b)) := by
  unfold p_dyehouseref12_Texts
  by_cases hl : a.length = b.length
  · rw [if_neg (by simp [hl]), toE_eq hl (by omega) (fun i x y hx hy => ?_)]
    · by_cases e : a = b <;> simp [e, bindE]
    · unfold p_dyehouseref12_Texts_b1
      rw [idx_nat hx, Option.bind_some, idx_nat hy, Option.bind_some]
      by_cases e : x = y <;> simp [e]
  · rw [if_pos (by simp; omega)]
    have : a ≠ b := fun h => hl (h ▸ rfl)
    simp [this]
theorem eTarget {a b : Tgt} (h : a.clobber.a0.length ≤ 1048576 ∧ a.clobber.a1.length ≤ 1048576) {fuel : Nat} (hf : 1048576 < fuel) : p_ir_SameTarget fuel a b = some (decide (a = b)) := by
  unfold p_ir_SameTarget
  obtain ⟨n, rfl⟩ : ∃ n, fuel = n + 1 + 1 + 1 := ⟨fuel - 3, by omega⟩
  have s0 : p_ir_SameTarget_b1 (n + 1 + 1 + 1) a b 0 = if a.clobber.a0 = b.clobber.a0 then some (.n 1) else some (.r false) := by
    unfold p_ir_SameTarget_b1
    rw [if_pos (by decide), show ix2 0 = some false from rfl, Option.bind_some, A2_at_f, A2_at_f, eInts h.1 hf, Option.bind_some, show IntKind.wrap .i64 ((0 : Int) + 1) = 1 from rfl]
    by_cases e : a.clobber.a0 = b.clobber.a0 <;> simp [e]
  have s1 : p_ir_SameTarget_b1 (n + 1 + 1 + 1) a b 1 = if a.clobber.a1 = b.clobber.a1 then some (.n 2) else some (.r false) := by
    unfold p_ir_SameTarget_b1
    rw [if_pos (by decide), show ix2 1 = some true from rfl, Option.bind_some, A2_at_t, A2_at_t, eInts h.2 hf, Option.bind_some, show IntKind.wrap .i64 ((1 : Int) + 1) = 2 from rfl]
    by_cases e : a.clobber.a1 = b.clobber.a1 <;> simp [e]
  have s2 : p_ir_SameTarget_b1 (n + 1 + 1 + 1) a b 2 = some (.b 2) := by
    unfold p_ir_SameTarget_b1
    rw [if_neg (by decide)]
  have hloop : loopE (n + 1 + 1 + 1) (fun s => p_ir_SameTarget_b1 (n + 1 + 1 + 1) a b s) 0 = if a.clobber.a0 = b.clobber.a0 then (if a.clobber.a1 = b.clobber.a1 then some (.n 2) else some (.r false)) else some (.r false) := by
    rw [loopE, s0]
    by_cases e0 : a.clobber.a0 = b.clobber.a0
    · rw [if_pos e0, if_pos e0]
      show loopE (n + 1 + 1) (fun s => p_ir_SameTarget_b1 (n + 1 + 1 + 1) a b s) 1 = _
      rw [loopE, s1]
      by_cases e1 : a.clobber.a1 = b.clobber.a1
      · rw [if_pos e1]
        show loopE (n + 1) (fun s => p_ir_SameTarget_b1 (n + 1 + 1 + 1) a b s) 2 = _
        rw [loopE, s2]
        rfl
      · rw [if_neg e1]
        rfl
    · rw [if_neg e0, if_neg e0]
      rfl
  rw [hloop]
  clear hloop s0 s1 s2
  obtain ⟨a0, ⟨a1, a2⟩, a3⟩ := a
  obtain ⟨b0, ⟨b1, b2⟩, b3⟩ := b
  simp only [Tgt.mk.injEq, A2.mk.injEq] at *
  by_cases c0 : a0 = b0 <;> by_cases c1 : a1 = b1 <;> by_cases c2 : a2 = b2 <;> by_cases c3 : a3 = b3 <;> simp [c0, c1, c2, c3, bindE]
theorem rTarget {a b : Tgt} (h : a.clobber.a0.length ≤ 1048576 ∧ a.clobber.a1.length ≤ 1048576) {fuel : Nat} : p_dyehouseref12_Target fuel a b = some (decide (a = b)) := by
  unfold p_dyehouseref12_Target
  rw [rInts h.1, rInts h.2]
  obtain ⟨a0, ⟨a1, a2⟩, a3⟩ := a
  obtain ⟨b0, ⟨b1, b2⟩, b3⟩ := b
  simp only [Tgt.mk.injEq, A2.mk.injEq] at *
  by_cases c0 : a0 = b0 <;> by_cases c1 : a1 = b1 <;> by_cases c2 : a2 = b2 <;> by_cases c3 : a3 = b3 <;> simp [c0, c1, c2, c3]
theorem rInstr {a b : Ins} (h : iIr a) {fuel : Nat} : p_dyehouseref12_Instr fuel a b = some (decide (a = b)) := by
  unfold p_dyehouseref12_Instr
  rw [rOpds h.1, rTexts h.2.1, rInts h.2.2]
  obtain ⟨a0, a1, a2, a3, a4, a5, a6⟩ := a
  obtain ⟨b0, b1, b2, b3, b4, b5, b6⟩ := b
  simp only [Ins.mk.injEq] at *
  by_cases c0 : a0 = b0 <;> by_cases c1 : a1 = b1 <;> by_cases c2 : a2 = b2 <;> by_cases c3 : a3 = b3 <;> by_cases c4 : a4 = b4 <;> by_cases c5 : a5 = b5 <;> by_cases c6 : a6 = b6 <;> simp [c0, c1, c2, c3, c4, c5, c6, Option.bind_some]
theorem rCode {a b : List Ins} (hn : a.length ≤ 1048576) (hb : ∀ x ∈ a, iIr x) {fuel : Nat} : p_dyehouseref12_Code fuel a b = some (decide (a = b)) := by
  unfold p_dyehouseref12_Code
  by_cases hl : a.length = b.length
  · rw [if_neg (by simp [hl]), toE_eq hl (by omega) (fun i x y hx hy => ?_)]
    · by_cases e : a = b <;> simp [e, bindE]
    · unfold p_dyehouseref12_Code_b1
      rw [idx_nat hx, Option.bind_some, idx_nat hy, Option.bind_some, rInstr (hb x (List.mem_of_getElem? hx)), Option.bind_some]
      by_cases e : x = y <;> simp [e]
  · rw [if_pos (by simp; omega)]
    have : a ≠ b := fun h => hl (h ▸ rfl)
    simp [this]
theorem rFunc {a b : Fnc} (h : fIr a) {fuel : Nat} : p_dyehouseref12_Same fuel a b = some (decide (a = b)) := by
  obtain ⟨h1, h2, h3, h4⟩ := h
  unfold p_dyehouseref12_Same
  rw [rOpds h2]
  have e1 : a.regs.length = b.regs.length → toE 0 (a.regs.length : Int) (fun i _ => p_dyehouseref12_Same_b1 fuel a b i) () = if a.regs = b.regs then some (.n ()) else some (.r false) := fun hl => toE_eq hl (by omega) fun i x y hx hy => by
    unfold p_dyehouseref12_Same_b1
    rw [idx_nat hx, Option.bind_some, idx_nat hy, Option.bind_some]
    by_cases e : x = y <;> simp [e]
  have e2 : a.blocks.length = b.blocks.length → toE 0 (a.blocks.length : Int) (fun i _ => p_dyehouseref12_Same_b2 fuel a b i) () = if a.blocks = b.blocks then some (.n ()) else some (.r false) := fun hl => toE_eq hl (by omega) fun i x y hx hy => by
    obtain ⟨k1, k2, k3⟩ := h4 x (List.mem_of_getElem? hx)
    unfold p_dyehouseref12_Same_b2
    rw [idx_nat hx, Option.bind_some, idx_nat hy, Option.bind_some, rOpds k1, rCode k2 k3]
    obtain ⟨x0, x1, x2, x3⟩ := x
    obtain ⟨y0, y1, y2, y3⟩ := y
    simp only [Bl.mk.injEq]
    by_cases c0 : x0 = y0 <;> by_cases c1 : x1 = y1 <;> by_cases c2 : x2 = y2 <;> by_cases c3 : x3 = y3 <;> simp [c0, c1, c2, c3]
  obtain ⟨a0, a1, a2, a3, a4⟩ := a
  obtain ⟨b0, b1, b2, b3, b4⟩ := b
  simp only [Fnc.mk.injEq] at *
  by_cases r : a2.length = b2.length
  · by_cases q : a4.length = b4.length
    · rw [e1 r, e2 q]
      by_cases c0 : a0 = b0 <;> by_cases c1 : a1 = b1 <;> by_cases c2 : a2 = b2 <;> by_cases c3 : a3 = b3 <;> by_cases c4 : a4 = b4 <;> simp [c0, c1, c2, c3, c4, r, q, bindE]
    · have c4 : a4 ≠ b4 := fun h => q (h ▸ rfl)
      have q' : ¬ (a4.length : Int) = (b4.length : Int) := by omega
      by_cases c0 : a0 = b0 <;> by_cases c1 : a1 = b1 <;> by_cases c3 : a3 = b3 <;> simp [c0, c1, c3, c4, r, q, q', bindE]
  · have c2 : a2 ≠ b2 := fun h => r (h ▸ rfl)
    have r' : ¬ (a2.length : Int) = (b2.length : Int) := by omega
    simp [c2, r, r']
theorem rAlloc {a b : Al} (h : a.segs.length ≤ 1048576) {fuel : Nat} : p_dyehouseref12_Alloc fuel a b = some (decide (a = b)) := by
  unfold p_dyehouseref12_Alloc
  have e1 : a.segs.length = b.segs.length → toE 0 (a.segs.length : Int) (fun i _ => p_dyehouseref12_Alloc_b1 fuel a b i) () = if a.segs = b.segs then some (.n ()) else some (.r false) := fun hl => toE_eq hl (by omega) fun i x y hx hy => by
    unfold p_dyehouseref12_Alloc_b1
    rw [idx_nat hx, Option.bind_some, idx_nat hy, Option.bind_some]
    by_cases e : x = y <;> simp [e]
  obtain ⟨a0, a1⟩ := a
  obtain ⟨b0, b1⟩ := b
  simp only [Al.mk.injEq] at *
  by_cases r : a1.length = b1.length
  · rw [e1 r]
    by_cases c0 : a0 = b0 <;> by_cases c1 : a1 = b1 <;> simp [c0, c1, r, bindE]
  · have c1 : a1 ≠ b1 := fun h => r (h ▸ rfl)
    have r' : ¬ (a1.length : Int) = (b1.length : Int) := by omega
    simp [c1, r, r']
/-- The lists of a unit are not too long. -/
def uIr (u : Unt) : Prop := fIr u.func ∧ u.alloc.segs.length ≤ 1048576 ∧ u.target.clobber.a0.length ≤ 1048576 ∧ u.target.clobber.a1.length ≤ 1048576
theorem eUnit {a b : Unt} (h : uIr a) {fuel : Nat} (hf : 1048576 < fuel) : p_ir_SameUnit fuel a b = some (decide (a = b)) := by
  unfold p_ir_SameUnit
  rw [eTarget h.2.2 hf, eFunc h.1 hf, eAlloc h.2.1 hf]
  obtain ⟨a0, a1, a2, a3⟩ := a
  obtain ⟨b0, b1, b2, b3⟩ := b
  simp only [Unt.mk.injEq] at *
  by_cases c0 : a0 = b0 <;> by_cases c1 : a1 = b1 <;> by_cases c2 : a2 = b2 <;> by_cases c3 : a3 = b3 <;> simp [c0, c1, c2, c3, Option.bind_some]
theorem rUnit {a b : Unt} (h : uIr a) {fuel : Nat} : p_dyehouseref12_Unit fuel a b = some (decide (a = b)) := by
  unfold p_dyehouseref12_Unit
  rw [rTarget h.2.2, rFunc h.1, rAlloc h.2.1]
  obtain ⟨a0, a1, a2, a3⟩ := a
  obtain ⟨b0, b1, b2, b3⟩ := b
  simp only [Unt.mk.injEq] at *
  by_cases c0 : a0 = b0 <;> by_cases c1 : a1 = b1 <;> by_cases c2 : a2 = b2 <;> by_cases c3 : a3 = b3 <;> simp [c0, c1, c2, c3, Option.bind_some]
theorem sames_law {a b : Unt} (h : uIr a) (k : uIr b) : p_dyehouselaw12_IrSames 1048577 a b = some true := by
  unfold p_dyehouselaw12_IrSames
  obtain ⟨l1, hL1⟩ := Large_ok h.1 1048577
  obtain ⟨l2, hL2⟩ := Large_ok k.1 1048577
  rw [hL1, hL2, eUnit h (by omega), rUnit h, eFunc h.1 (by omega), rFunc h.1, eAlloc h.2.1 (by omega), rAlloc h.2.1, eTarget h.2.2 (by omega), rTarget h.2.2, eUnit h (by omega), works_ok]
  cases l1 <;> cases l2 <;> simp
end Go.Proofs.Ytodafoajkajnkaa.PL
