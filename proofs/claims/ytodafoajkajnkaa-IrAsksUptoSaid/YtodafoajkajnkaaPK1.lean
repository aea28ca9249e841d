/- Plain facts about the pure functions of the package ir: copies, and functions whose operands are turned. Printed by gen_pi.py. -/
import Derived.Test.YtodafoajkajnkaaAskP
import Derived.Test.YtodafoajkajnkaaPI0
set_option linter.unusedVariables false
set_option linter.unusedSimpArgs false
namespace Go.Proofs.Ytodafoajkajnkaa.PL
open Go
/-- The lists are not too long. -/
def iIr (i : Ins) : Prop := i.args.length ≤ 1048576 ∧ i.labels.length ≤ 1048576 ∧ i.cases.length ≤ 1048576
def bIr (b : Bl) : Prop := b.ins.length ≤ 1048576 ∧ b.code.length ≤ 1048576 ∧ ∀ i ∈ b.code, iIr i
def fIr (f : Fnc) : Prop := f.regs.length ≤ 1048576 ∧ f.params.length ≤ 1048576 ∧ f.blocks.length ≤ 1048576 ∧ ∀ b ∈ f.blocks, bIr b
/-- All operands turned. -/
def mapI (T : Opd → Opd) (i : Ins) : Ins := ⟨i.op, T i.dst, i.args.map T, i.name, i.off, i.labels, i.cases⟩
def mapB (T : Opd → Opd) (b : Bl) : Bl := ⟨b.label, b.edge, b.ins.map T, b.code.map (mapI T)⟩
def mapF (T : Opd → Opd) (f : Fnc) : Fnc := ⟨f.machine, f.name, f.regs, f.params.map T, f.blocks.map (mapB T)⟩
theorem mapI_id : mapI id = id := by funext i; simp [mapI]
theorem mapB_id : mapB id = id := by funext b; simp [mapB, mapI_id]
theorem mapF_id (f : Fnc) : mapF id f = f := by simp [mapF, mapB_id]
theorem mapI_mapI (S T : Opd → Opd) (h : ∀ x, S (T x) = x) : (mapI S) ∘ (mapI T) = id := by
  funext i
  simp [mapI, h, Function.comp_def]
theorem mapB_mapB (S T : Opd → Opd) (h : ∀ x, S (T x) = x) : (mapB S) ∘ (mapB T) = id := by
  have h2 : ∀ i, mapI S (mapI T i) = i := fun i => congrFun (mapI_mapI S T h) i
  funext b
  simp [mapB, h, Function.comp_def, h2]
theorem mapF_mapF (S T : Opd → Opd) (h : ∀ x, S (T x) = x) (f : Fnc) : mapF S (mapF T f) = f := by
  have h2 : ∀ i, mapB S (mapB T i) = i := fun i => congrFun (mapB_mapB S T h) i
  simp [mapF, List.map_map, h, Function.comp_def, h2]
theorem fIr_map {T : Opd → Opd} {f : Fnc} (h : fIr f) : fIr (mapF T f) := by
  obtain ⟨h1, h2, h3, h4⟩ := h
  refine ⟨h1, by simpa [mapF] using h2, by simpa [mapF] using h3, fun b hb => ?_⟩
  obtain ⟨b0, hb0, rfl⟩ := List.mem_map.1 hb
  obtain ⟨k1, k2, k3⟩ := h4 b0 hb0
  refine ⟨by simpa [mapB] using k1, by simpa [mapB] using k2, fun i hi => ?_⟩
  obtain ⟨i0, hi0, rfl⟩ := List.mem_map.1 hi
  obtain ⟨m1, m2, m3⟩ := k3 i0 hi0
  exact ⟨by simpa [mapI] using m1, m2, m3⟩
theorem cpy_all {α : Type} (z : α) (l : List α) : cpy (List.replicate l.length z) l = l := by simp [cpy]
theorem copyI {fuel : Nat} {i : Ins} (h : iIr i) : p_ir_CopyInstr fuel i = some i := by
  obtain ⟨h1, h2, h3⟩ := h
  unfold p_ir_CopyInstr
  rw [mk_nat (by omega), Option.bind_some, Option.bind_some, mk_nat (by omega), Option.bind_some, Option.bind_some, mk_nat (by omega), Option.bind_some, Option.bind_some, cpy_all, cpy_all, cpy_all]
/-- Two numbers of an operand change places. -/
def swp (o : Opd) : Opd := ⟨o.kind, o.cls, o.tag, o.n⟩
theorem swp_swp (o : Opd) : swp (swp o) = o := rfl
theorem turned_ir_Copy_1 {fuel : Nat} {l : List Opd} (hn : l.length ≤ 1048576) (hf : 1048576 < fuel) : p_ir_turned_at_ir_Copy_1 fuel l = some (l.map id) := by
  unfold p_ir_turned_at_ir_Copy_1
  rw [mk_nat (by omega), Option.bind_some, loop_fill (T := id) (z := _) (by omega) (fun i x s hx hi => ?_) (fun s => ?_) (by omega)]
  · rfl
  · have hlt : i < l.length := (List.getElem?_eq_some_iff.1 hx).1
    obtain ⟨y, hy⟩ := getAt hi
    dsimp only
    unfold p_ir_turned_at_ir_Copy_1_b1
    rw [if_pos (decide_eq_true (by omega)), idx_nat hx, Option.bind_some, show p_ir_Copy_1 fuel x = some (id x) from rfl, Option.bind_some, idx_nat hy, Option.bind_some, setI_nat hi, Option.bind_some, wrap1 (by omega)]
  · dsimp only
    unfold p_ir_turned_at_ir_Copy_1_b1
    rw [if_neg (by simp)]
theorem mapI_ir_Copy_1 {fuel : Nat} {i : Ins} (h : iIr i) (hf : 1048576 < fuel) : p_ir_MapInstr_at_ir_Copy_1 fuel i = some (mapI id i) := by
  unfold p_ir_MapInstr_at_ir_Copy_1
  rw [copyI h, Option.bind_some, show p_ir_Copy_1 fuel i.dst = some (id i.dst) from rfl, Option.bind_some, turned_ir_Copy_1 h.1 hf]
  rfl
theorem mapF_ir_Copy_1 {fuel : Nat} {f : Fnc} (h : fIr f) (hf : 1048576 < fuel) : p_ir_Map_at_ir_Copy_1 fuel f = some (mapF id f) := by
  obtain ⟨h1, h2, h3, h4⟩ := h
  unfold p_ir_Map_at_ir_Copy_1
  rw [show p_slices_Clone_api_Reg_api_Reg fuel f.regs = some f.regs from (app_ok (by simp; omega)).trans (by simp), Option.bind_some, turned_ir_Copy_1 h2 hf, Option.bind_some, mk_nat (by omega), Option.bind_some,
    loop_fill (T := mapB id) (z := _) (by omega) (fun i x s hx hi => ?_) (fun s => ?_) (by omega)]
  · rfl
  · have hlt : i < f.blocks.length := (List.getElem?_eq_some_iff.1 hx).1
    obtain ⟨y, hy⟩ := getAt hi
    obtain ⟨b1, b2, b3⟩ := h4 x (List.mem_of_getElem? hx)
    dsimp only
    unfold p_ir_Map_at_ir_Copy_1_b1
    rw [if_pos (decide_eq_true (by omega)), idx_nat hx, Option.bind_some, turned_ir_Copy_1 b1 hf, Option.bind_some, mk_nat (by omega), Option.bind_some,
      loop_fill (T := mapI id) (z := _) (by omega) (fun j z t hz ht => ?_) (fun t => ?_) (by omega)]
    · show ((idx s (i : Int)).bind fun x4 => _) = _
      rw [idx_nat hy, Option.bind_some, setI_nat hi, Option.bind_some, wrap1 (by omega)]
      rfl
    · have hlt2 : j < x.code.length := (List.getElem?_eq_some_iff.1 hz).1
      obtain ⟨y2, hy2⟩ := getAt ht
      dsimp only
      unfold p_ir_Map_at_ir_Copy_1_b2
      rw [if_pos (decide_eq_true (by omega)), idx_nat hz, Option.bind_some, mapI_ir_Copy_1 (b3 z (List.mem_of_getElem? hz)) hf, Option.bind_some, idx_nat hy2, Option.bind_some, setI_nat ht, Option.bind_some, wrap1 (by omega)]
    · dsimp only
      unfold p_ir_Map_at_ir_Copy_1_b2
      rw [if_neg (by simp)]
  · dsimp only
    unfold p_ir_Map_at_ir_Copy_1_b1
    rw [if_neg (by simp)]
end Go.Proofs.Ytodafoajkajnkaa.PL
