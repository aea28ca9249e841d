/- The example of layer 12 works. -/
import Derived.Test.YtodafoajkajnkaaPK1
import Derived.KernelRfl
set_option linter.unusedVariables false
set_option linter.unusedSimpArgs false
set_option maxRecDepth 100000
namespace Go.Proofs.Ytodafoajkajnkaa.PL
open Go
theorem Large_ok {f : Fnc} (hn : fIr f) (fuel : Nat) : ∃ b, p_dyehouseref12_Large fuel f = some b := by
  have hn1 := hn.2.2.1
  unfold p_dyehouseref12_Large
  obtain ⟨s, h1, _⟩ := toN_inv (fun _ (_ : Int) => True) (fun i s => p_dyehouseref12_Large_b1 fuel f i s) f.blocks.length (by omega) (s := IntKind.wrap .i64 ((IntKind.wrap .i64 ((f.name.size : Int) + (f.regs.length : Int))) + (f.params.length : Int))) trivial (by
    intro i s hi _
    obtain ⟨b, hb⟩ := getAt hi
    obtain ⟨_, hb2, hb3⟩ := hn.2.2.2 b (List.mem_of_getElem? hb)
    unfold p_dyehouseref12_Large_b1
    simp only [idx_nat hb, Option.bind_some]
    obtain ⟨s, h1, _⟩ := toN_inv (fun _ (_ : Int) => True) (fun i s => p_dyehouseref12_Large_b2 fuel b i s) b.code.length (by omega) (s := (IntKind.wrap .i64 ((IntKind.wrap .i64 (s + (b.label.size : Int))) + (b.ins.length : Int)))) trivial (by
      intro i s hi _
      obtain ⟨c, hc⟩ := getAt hi
      have hcc := (hb3 c (List.mem_of_getElem? hc)).2.1
      unfold p_dyehouseref12_Large_b2
      simp only [idx_nat hc, Option.bind_some]
      obtain ⟨s, h1, _⟩ := toN_inv (fun _ (_ : Int) => True) (fun i s => p_dyehouseref12_Large_b3 fuel c i s) c.labels.length (by omega) (s := (IntKind.wrap .i64 ((IntKind.wrap .i64 ((IntKind.wrap .i64 ((IntKind.wrap .i64 (s + 1)) + (c.args.length : Int))) + (c.name.size : Int))) + (c.cases.length : Int)))) trivial (by
        intro i s hi _
        obtain ⟨l, hl⟩ := getAt hi
        unfold p_dyehouseref12_Large_b3
        simp only [idx_nat hl, Option.bind_some]
        exact ⟨_, rfl, trivial⟩)
      rw [h1]
      exact ⟨_, rfl, trivial⟩)
    rw [h1]
    exact ⟨_, rfl, trivial⟩)
  rw [h1]
  exact ⟨_, rfl⟩
theorem calls_one : p_ir_Calls 1048577 (⟨false, (⟨#[102]⟩ : ByteArray), ([(⟨2, 0⟩ : Rg), (⟨7, 1⟩ : Rg)] : List Rg), ([(⟨1, 0, 7, 0⟩ : Opd)] : List Opd), ([(⟨(⟨#[97]⟩ : ByteArray), false, ([] : List Opd), ([(⟨1, (⟨1, 0, 2, 0⟩ : Opd), ([(⟨1, 0, 7, 0⟩ : Opd), (⟨1, 0, 7, 0⟩ : Opd)] : List Opd), (⟨#[]⟩ : ByteArray), 0, [], []⟩ : Ins), (⟨19, (⟨0, 0, 0, 0⟩ : Opd), [], (⟨#[113]⟩ : ByteArray), 0, [], []⟩ : Ins)] : List Ins)⟩ : Bl)] : List Bl)⟩ : Fnc) = some [(⟨#[113]⟩ : ByteArray)] := by
  unfold p_ir_Calls
  have h1 : loopE 1048577 (fun s => p_ir_Calls_b1 1048577 (⟨false, (⟨#[102]⟩ : ByteArray), ([(⟨2, 0⟩ : Rg), (⟨7, 1⟩ : Rg)] : List Rg), ([(⟨1, 0, 7, 0⟩ : Opd)] : List Opd), ([(⟨(⟨#[97]⟩ : ByteArray), false, ([] : List Opd), ([(⟨1, (⟨1, 0, 2, 0⟩ : Opd), ([(⟨1, 0, 7, 0⟩ : Opd), (⟨1, 0, 7, 0⟩ : Opd)] : List Opd), (⟨#[]⟩ : ByteArray), 0, [], []⟩ : Ins), (⟨19, (⟨0, 0, 0, 0⟩ : Opd), [], (⟨#[113]⟩ : ByteArray), 0, [], []⟩ : Ins)] : List Ins)⟩ : Bl)] : List Bl)⟩ : Fnc) s.1 s.2) (0, ([] : List ByteArray)) = some (.n (1, [(⟨#[113]⟩ : ByteArray)])) := by kernel_rfl
  rw [h1]
  show ((p_slices_Sort_string_string 1048577 [(⟨#[113]⟩ : ByteArray)]).bind fun m3 => (p_slices_Compact_string_string 1048577 m3).bind fun r1 => some r1) = _
  have h2 : p_slices_Sort_string_string 1048577 [(⟨#[113]⟩ : ByteArray)] = some [(⟨#[113]⟩ : ByteArray)] := by
    unfold p_slices_Sort_string_string
    rw [if_pos (by decide), List.map_cons, List.map_nil, List.mergeSort_singleton]
    rfl
  rw [h2, Option.bind_some]
  show (p_slices_Compact_string_string 1048577 [(⟨#[113]⟩ : ByteArray)]).bind (fun r1 => some r1) = some [(⟨#[113]⟩ : ByteArray)]
  kernel_rfl
theorem works_ok : p_dyehouselaw12_works 1048577 = some true := by
  unfold p_dyehouselaw12_works
  simp only [show ∀ n, p_dyehouselaw12_works_1 1048577 n = some (⟨1, 0, n, 0⟩ : Opd) from fun _ => rfl, Option.bind_some, calls_one]
  kernel_rfl
end Go.Proofs.Ytodafoajkajnkaa.PL
