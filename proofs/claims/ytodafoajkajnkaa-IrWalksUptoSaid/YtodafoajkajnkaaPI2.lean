/- The pure law IrWalks is true. -/
import Derived.Test.YtodafoajkajnkaaPI1
import Derived.KernelRfl
set_option linter.unusedVariables false
set_option linter.unusedSimpArgs false
set_option maxRecDepth 100000
namespace Go.Proofs.Ytodafoajkajnkaa.PL
open Go
theorem Large_ok {f : Fnc} (hn : fIr f) (fuel : Nat) : ∃ b, p_dyehouseref12_Large fuel f = some b := by
  have hn1 := hn.2.2.1
  unfold p_dyehouseref12_Large
  obtain ⟨s, h1, _⟩ := toN_inv (fun _ (_ : Int) => True) (fun i s => p_dyehouseref12_Large_b1 fuel f i s) f.blocks.length (by omega) (s := IntKind.wrap .i64 ((IntKind.wrap .i64 ((f.name.size : Int) + (f.regs.length : Int))) + (f.params.length : Int))) trivial (by
    intro i s hi _
    obtain ⟨b, hb⟩ := getAt hi
    obtain ⟨_, hb2, hb3⟩ := hn.2.2.2 b (List.mem_of_getElem? hb)
    unfold p_dyehouseref12_Large_b1
    simp only [idx_nat hb, Option.bind_some]
    obtain ⟨s, h1, _⟩ := toN_inv (fun _ (_ : Int) => True) (fun i s => p_dyehouseref12_Large_b2 fuel b i s) b.code.length (by omega) (s := (IntKind.wrap .i64 ((IntKind.wrap .i64 (s + (b.label.size : Int))) + (b.ins.length : Int)))) trivial (by
      intro i s hi _
      obtain ⟨c, hc⟩ := getAt hi
      have hcc := (hb3 c (List.mem_of_getElem? hc)).2.1
      unfold p_dyehouseref12_Large_b2
      simp only [idx_nat hc, Option.bind_some]
      obtain ⟨s, h1, _⟩ := toN_inv (fun _ (_ : Int) => True) (fun i s => p_dyehouseref12_Large_b3 fuel c i s) c.labels.length (by omega) (s := (IntKind.wrap .i64 ((IntKind.wrap .i64 ((IntKind.wrap .i64 ((IntKind.wrap .i64 (s + 1)) + (c.args.length : Int))) + (c.name.size : Int))) + (c.cases.length : Int)))) trivial (by
        intro i s hi _
        obtain ⟨l, hl⟩ := getAt hi
        unfold p_dyehouseref12_Large_b3
        simp only [idx_nat hl, Option.bind_some]
        exact ⟨_, rfl, trivial⟩)
      rw [h1]
      exact ⟨_, rfl, trivial⟩)
    rw [h1]
    exact ⟨_, rfl, trivial⟩)
  rw [h1]
  exact ⟨_, rfl⟩
theorem calls_one : p_ir_Calls 1048577 (⟨false, (⟨#[102]⟩ : ByteArray), ([(⟨2, 0⟩ : Rg), (⟨7, 1⟩ : Rg)] : List Rg), ([(⟨1, 0, 7, 0⟩ : Opd)] : List Opd), ([(⟨(⟨#[97]⟩ : ByteArray), false, ([] : List Opd), ([(⟨1, (⟨1, 0, 2, 0⟩ : Opd), ([(⟨1, 0, 7, 0⟩ : Opd), (⟨1, 0, 7, 0⟩ : Opd)] : List Opd), (⟨#[]⟩ : ByteArray), 0, [], []⟩ : Ins), (⟨19, (⟨0, 0, 0, 0⟩ : Opd), [], (⟨#[113]⟩ : ByteArray), 0, [], []⟩ : Ins)] : List Ins)⟩ : Bl)] : List Bl)⟩ : Fnc) = some [(⟨#[113]⟩ : ByteArray)] := by
  unfold p_ir_Calls
  have h1 : loopE 1048577 (fun s => p_ir_Calls_b1 1048577 (⟨false, (⟨#[102]⟩ : ByteArray), ([(⟨2, 0⟩ : Rg), (⟨7, 1⟩ : Rg)] : List Rg), ([(⟨1, 0, 7, 0⟩ : Opd)] : List Opd), ([(⟨(⟨#[97]⟩ : ByteArray), false, ([] : List Opd), ([(⟨1, (⟨1, 0, 2, 0⟩ : Opd), ([(⟨1, 0, 7, 0⟩ : Opd), (⟨1, 0, 7, 0⟩ : Opd)] : List Opd), (⟨#[]⟩ : ByteArray), 0, [], []⟩ : Ins), (⟨19, (⟨0, 0, 0, 0⟩ : Opd), [], (⟨#[113]⟩ : ByteArray), 0, [], []⟩ : Ins)] : List Ins)⟩ : Bl)] : List Bl)⟩ : Fnc) s.1 s.2) (0, ([] : List ByteArray)) = some (.n (1, [(⟨#[113]⟩ : ByteArray)])) := by kernel_rfl
  rw [h1]
  show ((p_slices_Sort_string_string 1048577 [(⟨#[113]⟩ : ByteArray)]).bind fun m3 => (p_slices_Compact_string_string 1048577 m3).bind fun r1 => some r1) = _
  have h2 : p_slices_Sort_string_string 1048577 [(⟨#[113]⟩ : ByteArray)] = some [(⟨#[113]⟩ : ByteArray)] := by
    unfold p_slices_Sort_string_string
    rw [if_pos (by decide), List.map_cons, List.map_nil, List.mergeSort_singleton]
    rfl
  rw [h2, Option.bind_some]
  show (p_slices_Compact_string_string 1048577 [(⟨#[113]⟩ : ByteArray)]).bind (fun r1 => some r1) = some [(⟨#[113]⟩ : ByteArray)]
  kernel_rfl
theorem works_ok : p_dyehouselaw12_works 1048577 = some true := by
  unfold p_dyehouselaw12_works
  simp only [show ∀ n, p_dyehouselaw12_works_1 1048577 n = some (⟨1, 0, n, 0⟩ : Opd) from fun _ => rfl, Option.bind_some, calls_one]
  kernel_rfl
theorem foldl_app {α β : Type} (h : α → List β) : ∀ (xs : List α) (s : List β), xs.foldl (fun s x => s ++ h x) s = s ++ xs.flatMap h
  | [], s => by simp
  | x :: xs, s => by rw [List.foldl_cons, foldl_app h xs, List.flatMap_cons, List.append_assoc]
theorem toN_app {α β : Type} {xs : List α} {f : Int → List β → Option (List β)} (h : α → List β) {s0 : List β} (hn : xs.length ≤ 4294967296) (hb : (s0 ++ xs.flatMap h).length ≤ 4294967296)
    (hs : ∀ (i : Nat) (x : α) (s : List β), xs[i]? = some x → (s ++ h x).length ≤ 4294967296 → f (i : Int) s = some (s ++ h x)) : toN 0 (xs.length : Int) f s0 = some (s0 ++ xs.flatMap h) := by
  rw [toN_fold (fun s x => s ++ h x) (fun _ => True) hn trivial (fun i x s hx hsq _ => ⟨hs i x s hx ?_, trivial⟩), foldl_app]
  rw [hsq, foldl_app]
  have hi : i < xs.length := (List.getElem?_eq_some_iff.1 hx).1
  have e : xs = xs.take i ++ x :: xs.drop (i + 1) := by
    have := List.take_append_drop i xs
    rw [List.drop_eq_getElem_cons hi, (List.getElem?_eq_some_iff.1 hx).2] at this
    exact this.symm
  rw [e] at hb
  simp only [List.flatMap_append, List.flatMap_cons, List.length_append] at hb
  simp only [List.length_append]
  omega
theorem operands_ok {f : Fnc} {fuel : Nat} (h : fIr f) (hb : (opsL f).length ≤ 1048576) : p_dyehouseref12_Operands fuel f = some (opsL f) := by
  unfold opsL at hb
  unfold p_dyehouseref12_Operands
  have hp := hb
  rw [List.length_append] at hp
  rw [show app ([] : List Opd) f.params = some f.params from (app_ok (by simp; omega)).trans (by simp), Option.bind_some,
    toN_app (fun b => b.ins ++ b.code.flatMap fun i => i.dst :: i.args) (by have := h.2.2.1; omega) (by omega) (fun i b s hbk hl => ?_)]
  · rfl
  · obtain ⟨k1, k2, k3⟩ := h.2.2.2 b (List.mem_of_getElem? hbk)
    unfold p_dyehouseref12_Operands_b1
    rw [idx_nat hbk, Option.bind_some]
    have hl' := hl
    rw [← List.append_assoc, List.length_append] at hl
    rw [app_ok (by have := hl; rw [List.length_append] at this; omega), Option.bind_some, toN_app (fun i => i.dst :: i.args) (by omega) (by rw [List.append_assoc]; exact hl') (fun j x t hx ht => ?_)]
    · rw [Option.bind_some, List.append_assoc]
    · unfold p_dyehouseref12_Operands_b2
      rw [idx_nat hx, Option.bind_some, app_ok (by simp at ht ⊢; omega), Option.bind_some, app_ok (by simp at ht ⊢; omega), Option.bind_some, List.append_assoc]
      rfl
theorem lops_ok {f : Fnc} {fuel : Nat} (h : fIr f) (hf : 1048576 < fuel) : l_ir_Operands fuel f = some (opsL f) := by
  obtain ⟨h1, h2, h3, h4⟩ := h
  unfold l_ir_Operands
  rw [if_pos]
  refine ⟨by omega, by omega, by omega, by omega, fun b hb => ?_⟩
  obtain ⟨k1, k2, k3⟩ := h4 b hb
  refine ⟨by omega, by omega, by omega, by omega, fun i hi => ?_⟩
  have := (k3 i hi).1
  exact ⟨by omega, by omega⟩
theorem opsL_map (T : Opd → Opd) (f : Fnc) : opsL (mapF T f) = (opsL f).map T := by
  simp [opsL, mapF, mapB, mapI, List.flatMap_map, List.map_flatMap]
theorem toE_all {ρ : Type} {n : Nat} {f : Int → Unit → Option (Ex Unit ρ)} (hn : n ≤ 4294967296) (hs : ∀ i : Nat, i < n → f (i : Int) () = some (.n ())) : toE 0 (n : Int) f () = some (.n ()) := by
  rcases toE_inv (fun _ (_ : Unit) => True) (fun (_ : ρ) => False) f n hn (s := ()) trivial (fun i s hi _ => .inl ⟨(), hs i hi, trivial⟩) with ⟨s, h, _⟩ | ⟨v, _, h⟩
  · exact h
  · exact h.elim
theorem same_refl {l : List Opd} {fuel : Nat} (h : l.length ≤ 1048576) : p_dyehouseref12_same fuel l l = some true := by
  unfold p_dyehouseref12_same
  rw [if_neg (by simp), toE_all (by omega) (fun i hi => ?_)]
  · rfl
  · obtain ⟨x, hx⟩ := getAt hi
    unfold p_dyehouseref12_same_b1
    simp [idx_nat hx]
theorem texts_refl {l : List ByteArray} {fuel : Nat} (h : l.length ≤ 1048576) : p_dyehouseref12_Texts fuel l l = some true := by
  unfold p_dyehouseref12_Texts
  rw [if_neg (by simp), toE_all (by omega) (fun i hi => ?_)]
  · rfl
  · obtain ⟨x, hx⟩ := getAt hi
    unfold p_dyehouseref12_Texts_b1
    simp [idx_nat hx]
theorem ints_refl {l : List Int} {fuel : Nat} (h : l.length ≤ 1048576) : p_dyehouseref12_Ints fuel l l = some true := by
  unfold p_dyehouseref12_Ints
  rw [if_neg (by simp), toE_all (by omega) (fun i hi => ?_)]
  · rfl
  · obtain ⟨x, hx⟩ := getAt hi
    unfold p_dyehouseref12_Ints_b1
    simp [idx_nat hx]
theorem instr_refl {i : Ins} {fuel : Nat} (h : iIr i) : p_dyehouseref12_Instr fuel i i = some true := by
  unfold p_dyehouseref12_Instr
  simp [same_refl h.1, texts_refl h.2.1, ints_refl h.2.2]
theorem code_refl {l : List Ins} {fuel : Nat} (h : l.length ≤ 1048576) (k : ∀ i ∈ l, iIr i) : p_dyehouseref12_Code fuel l l = some true := by
  unfold p_dyehouseref12_Code
  rw [if_neg (by simp), toE_all (by omega) (fun i hi => ?_)]
  · rfl
  · obtain ⟨x, hx⟩ := getAt hi
    unfold p_dyehouseref12_Code_b1
    simp [idx_nat hx, instr_refl (k x (List.mem_of_getElem? hx))]
theorem Same_refl {f : Fnc} {fuel : Nat} (h : fIr f) : p_dyehouseref12_Same fuel f f = some true := by
  obtain ⟨h1, h2, h3, h4⟩ := h
  unfold p_dyehouseref12_Same
  have e1 : toE 0 (f.regs.length : Int) (fun i _ => p_dyehouseref12_Same_b1 fuel f f i) () = some (.n ()) := toE_all (by omega) fun i hi => by
    obtain ⟨x, hx⟩ := getAt hi
    unfold p_dyehouseref12_Same_b1
    simp [idx_nat hx]
  have e2 : toE 0 (f.blocks.length : Int) (fun i _ => p_dyehouseref12_Same_b2 fuel f f i) () = some (.n ()) := toE_all (by omega) fun i hi => by
    obtain ⟨x, hx⟩ := getAt hi
    obtain ⟨k1, k2, k3⟩ := h4 x (List.mem_of_getElem? hx)
    unfold p_dyehouseref12_Same_b2
    simp [idx_nat hx, same_refl k1, code_refl k2 k3]
  simp [same_refl h2, e1, e2, bindE]
/-- The walk that is left. -/
theorem walk_ok {W : List Opd} {most : Int} {fuel : Nat} (hW : W.length ≤ 1048576) : ∀ (m k : Nat), k + m = W.length → (k : Int) < (if 1 > most then 1 else most) →
    ∃ c : Int, (rangeE (fun s x => p_dyehouselaw12_IrWalks_b1 fuel most W x s) (k : Int) (W.drop k) = some (.n c) ∧ c = W.length ∨ rangeE (fun s x => p_dyehouselaw12_IrWalks_b1 fuel most W x s) (k : Int) (W.drop k) = some (.b c) ∧ c = (if 1 > most then 1 else most))
  | 0, k, hk, hlt => by
    rw [List.drop_eq_nil_of_le (by omega)]
    exact ⟨k, .inl ⟨rfl, by omega⟩⟩
  | m + 1, k, hk, hlt => by
    have hl : k < W.length := by omega
    have hx : W[k]? = some W[k] := by simp [hl]
    rw [List.drop_eq_getElem_cons hl, rangeE]
    have e : p_dyehouselaw12_IrWalks_b1 fuel most W W[k] (k : Int) = if decide (most ≤ ((k + 1 : Nat) : Int)) = true then some (.b ((k + 1 : Nat) : Int)) else some (.n ((k + 1 : Nat) : Int)) := by
      unfold p_dyehouselaw12_IrWalks_b1
      rw [if_neg (by simp; omega), idx_nat hx, Option.bind_some, wrap1 (by omega)]
      simp
    simp only [e]
    by_cases hm : most ≤ ((k + 1 : Nat) : Int)
    · rw [if_pos (decide_eq_true hm)]
      refine ⟨((k + 1 : Nat) : Int), .inr ⟨rfl, ?_⟩⟩
      split at hlt <;> omega
    · rw [if_neg (by simpa using hm)]
      exact walk_ok hW m (k + 1) (by omega) (by split <;> omega)
theorem walks_law {f : Fnc} (h : fIr f) (hb : (opsL f).length ≤ 1048576) (most : Int) : p_dyehouselaw12_IrWalks 1048577 f most = some true := by
  unfold p_dyehouselaw12_IrWalks
  obtain ⟨b, hL⟩ := Large_ok h 1048577
  rw [hL, Option.bind_some]
  cases b with
  | true => rw [if_pos rfl, works_ok]; rfl
  | false =>
    rw [if_neg (by simp), operands_ok h hb, Option.bind_some, show p_ir_Operands 1048577 f = some f from rfl, Option.bind_some, lops_ok h (by omega), Option.bind_some]
    have hm : fIr (mapF swp f) := fIr_map h
    have hlen : (opsL (mapF swp f)).length = (opsL f).length := by rw [opsL_map, List.length_map]
    have rest : ∀ c1 : Int, (c1 = ((opsL f).length : Int) ∨ c1 = (if 1 > most then 1 else most)) → (if ((decide (c1 ≠ ((opsL f).length : Int))) && (decide (c1 ≠ (if 1 > most then 1 else most)))) = true then
      some false
    else
      (p_ir_Map_at_dyehouselaw12_IrWalks_1 1048577 f).bind fun r5 =>
      (p_dyehouseref12_Operands 1048577 r5).bind fun r6 =>
      if decide ((r6.length : Int) ≠ ((opsL f).length : Int)) = true then
        some false
      else
        bindE (toE 0 ((opsL f).length : Int) (fun i _ => p_dyehouselaw12_IrWalks_b2 1048577 (opsL f) r6 i) ()) (fun _ =>
        (p_ir_Map_at_dyehouselaw12_IrWalks_2 1048577 r5).bind fun r7 =>
        (p_dyehouseref12_Same 1048577 r7 f).bind fun r8 =>
        (if r8 = true then (p_dyehouselaw12_works 1048577).bind fun r9 =>
        some r9 else some false).bind fun b2 =>
        some b2) some) = some true := by
      intro c1 hc
      rw [if_neg (by rcases hc with rfl | rfl <;> simp), mapF_dyehouselaw12_IrWalks_1 h (by omega), Option.bind_some, operands_ok hm (by omega), Option.bind_some, if_neg (by simp [hlen]),
        toE_all (by omega) (fun i hi => ?_)]
      · show ((p_ir_Map_at_dyehouselaw12_IrWalks_2 1048577 (mapF swp f)).bind fun r7 => _) = _
        rw [mapF_dyehouselaw12_IrWalks_2 hm (by omega), Option.bind_some, mapF_mapF swp swp swp_swp, Same_refl h, Option.bind_some, if_pos rfl, works_ok]
        rfl
      · obtain ⟨x, hx⟩ := getAt hi
        unfold p_dyehouselaw12_IrWalks_b2
        have hx2 : (opsL (mapF swp f))[i]? = some (swp x) := by rw [opsL_map, List.getElem?_map, hx]; rfl
        rw [idx_nat hx, Option.bind_some, idx_nat hx2, Option.bind_some]
        simp [swp]
    obtain ⟨c, ⟨h1, h2⟩ | ⟨h1, h2⟩⟩ := walk_ok (fuel := 1048577) (most := most) hb (opsL f).length 0 (by omega) (by split <;> omega)
    · have h1' : rangeE (fun s x => p_dyehouselaw12_IrWalks_b1 1048577 most (opsL f) x s) 0 (opsL f) = some (.n c) := by simpa using h1
      rw [h1']
      exact rest c (.inl h2)
    · have h1' : rangeE (fun s x => p_dyehouselaw12_IrWalks_b1 1048577 most (opsL f) x s) 0 (opsL f) = some (.b c) := by simpa using h1
      rw [h1']
      exact rest c (.inr h2)
end Go.Proofs.Ytodafoajkajnkaa.PL
