/- The pure law IrAsks is true. Printed by gen_pk.py. -/
import Derived.Test.YtodafoajkajnkaaPK0
import Derived.Test.YtodafoajkajnkaaPK2
set_option linter.unusedVariables false
set_option linter.unusedSimpArgs false
set_option maxRecDepth 100000
namespace Go.Proofs.Ytodafoajkajnkaa.PL
open Go
theorem turned_dyehouselaw12_IrAsks_1 {fuel : Nat} {l : List Opd} (hn : l.length ≤ 1048576) (hf : 1048576 < fuel) : p_ir_turned_at_dyehouselaw12_IrAsks_1 fuel l = some (l.map swp) := by
  unfold p_ir_turned_at_dyehouselaw12_IrAsks_1
  rw [mk_nat (by omega), Option.bind_some, loop_fill (T := swp) (z := _) (by omega) (fun i x s hx hi => ?_) (fun s => ?_) (by omega)]
  · rfl
  · have hlt : i < l.length := (List.getElem?_eq_some_iff.1 hx).1
    obtain ⟨y, hy⟩ := getAt hi
    dsimp only
    unfold p_ir_turned_at_dyehouselaw12_IrAsks_1_b1
    rw [if_pos (decide_eq_true (by omega)), idx_nat hx, Option.bind_some, show p_dyehouselaw12_IrAsks_1 fuel x = some (swp x) from rfl, Option.bind_some, idx_nat hy, Option.bind_some, setI_nat hi, Option.bind_some, wrap1 (by omega)]
  · dsimp only
    unfold p_ir_turned_at_dyehouselaw12_IrAsks_1_b1
    rw [if_neg (by simp)]
theorem mapI_dyehouselaw12_IrAsks_1 {fuel : Nat} {i : Ins} (h : iIr i) (hf : 1048576 < fuel) : p_ir_MapInstr_at_dyehouselaw12_IrAsks_1 fuel i = some (mapI swp i) := by
  unfold p_ir_MapInstr_at_dyehouselaw12_IrAsks_1
  rw [copyI h, Option.bind_some, show p_dyehouselaw12_IrAsks_1 fuel i.dst = some (swp i.dst) from rfl, Option.bind_some, turned_dyehouselaw12_IrAsks_1 h.1 hf]
  rfl
theorem turned_dyehouselaw12_IrAsks_2 {fuel : Nat} {l : List Opd} (hn : l.length ≤ 1048576) (hf : 1048576 < fuel) : p_ir_turned_at_dyehouselaw12_IrAsks_2 fuel l = some (l.map swp) := by
  unfold p_ir_turned_at_dyehouselaw12_IrAsks_2
  rw [mk_nat (by omega), Option.bind_some, loop_fill (T := swp) (z := _) (by omega) (fun i x s hx hi => ?_) (fun s => ?_) (by omega)]
  · rfl
  · have hlt : i < l.length := (List.getElem?_eq_some_iff.1 hx).1
    obtain ⟨y, hy⟩ := getAt hi
    dsimp only
    unfold p_ir_turned_at_dyehouselaw12_IrAsks_2_b1
    rw [if_pos (decide_eq_true (by omega)), idx_nat hx, Option.bind_some, show p_dyehouselaw12_IrAsks_2 fuel x = some (swp x) from rfl, Option.bind_some, idx_nat hy, Option.bind_some, setI_nat hi, Option.bind_some, wrap1 (by omega)]
  · dsimp only
    unfold p_ir_turned_at_dyehouselaw12_IrAsks_2_b1
    rw [if_neg (by simp)]
theorem mapI_dyehouselaw12_IrAsks_2 {fuel : Nat} {i : Ins} (h : iIr i) (hf : 1048576 < fuel) : p_ir_MapInstr_at_dyehouselaw12_IrAsks_2 fuel i = some (mapI swp i) := by
  unfold p_ir_MapInstr_at_dyehouselaw12_IrAsks_2
  rw [copyI h, Option.bind_some, show p_dyehouselaw12_IrAsks_2 fuel i.dst = some (swp i.dst) from rfl, Option.bind_some, turned_dyehouselaw12_IrAsks_2 h.1 hf]
  rfl
/-- Is a number in a list? -/
theorem in_ref {l : List Int} (hn : l.length ≤ 4294967296) (fuel : Nat) (v : Int) : p_dyehouseref12_In fuel l v = some (decide (v ∈ l)) := by
  unfold p_dyehouseref12_In
  refine Or.elim (toE_inv (fun i (_ : Unit) => ∀ j < i, l[j]? ≠ some v) (fun r => r = decide (v ∈ l)) (fun i _ => p_dyehouseref12_In_b1 fuel l v i) l.length hn (s := ()) (by intro j h; omega) ?_) ?_ ?_
  rotate_left
  · rintro ⟨s, h1, h2⟩; rw [h1]
    have : v ∉ l := by
      intro h
      obtain ⟨j, hj⟩ := List.getElem?_of_mem h
      exact h2 j (List.getElem?_eq_some_iff.1 hj).1 hj
    simp [bindE, this]
  · rintro ⟨w, h1, h2⟩; rw [h1, h2]; rfl
  · intro i s hi hI
    obtain ⟨b, hb⟩ := getAt hi
    by_cases c : b = v
    · refine .inr ⟨true, by simp [p_dyehouseref12_In_b1, idx_nat hb, c], ?_⟩
      have : v ∈ l := by rw [← c]; exact List.mem_of_getElem? hb
      simp [this]
    · refine .inl ⟨(), by simp [p_dyehouseref12_In_b1, idx_nat hb, c], ?_⟩
      intro j hj hb'
      by_cases e : j = i
      · subst e; rw [hb] at hb'; cases hb'; exact c rfl
      · exact hI j (by omega) hb'
theorem in_sl {l : List Int} (hn : l.length ≤ 4294967) {fuel : Nat} (hf : l.length < fuel) (v : Int) : p_slices_Contains_int_int fuel l v = some (decide (v ∈ l)) := by
  unfold p_slices_Contains_int_int p_slices_Index_int_int
  refine Or.elim (loopE_inv (fun x : Int => ∃ i : Nat, x = i ∧ i ≤ l.length ∧ ∀ j < i, l[j]? ≠ some v) (fun _ => v ∉ l) (fun r : Int => 0 ≤ r ∧ v ∈ l) (fun x => l.length - x.toNat) (fun s => p_slices_Index_int_int_b1 fuel l v s) ?_ fuel 0 ⟨0, rfl, by omega, by intro j h; omega⟩ (by simpa using hf)) ?_ ?_
  rotate_left
  · rintro ⟨s, h1, h2⟩; rw [h1]; simp [bindE, h2]
  · rintro ⟨w, h1, h2⟩; rw [h1]; simp [bindE, h2.1, h2.2]
  · rintro x ⟨i, rfl, hi, hI⟩
    by_cases hlt : i < l.length
    · obtain ⟨b, hb⟩ := getAt hlt
      by_cases c : v = b
      · exact .inr (.inr ⟨i, by simp [p_slices_Index_int_int_b1, idx_nat hb, c, hlt], by omega, by rw [c]; exact List.mem_of_getElem? hb⟩)
      · refine .inl ⟨((i + 1 : Nat) : Int), by rw [← wrap1 (by omega)]; simp [p_slices_Index_int_int_b1, idx_nat hb, c, hlt], ⟨i + 1, rfl, by omega, ?_⟩, by omega⟩
        intro j hj hb'
        by_cases e : j = i
        · subst e; rw [hb] at hb'; cases hb'; exact c rfl
        · exact hI j (by omega) hb'
    · refine .inr (.inl ⟨(i : Int), by simp [p_slices_Index_int_int_b1, hlt], ?_⟩)
      intro h
      obtain ⟨j, hj⟩ := List.getElem?_of_mem h
      have := (List.getElem?_eq_some_iff.1 hj).1
      exact hI j (by omega) hj
theorem toE_all {ρ : Type} {n : Nat} {f : Int → Unit → Option (Ex Unit ρ)} (hn : n ≤ 4294967296) (hs : ∀ i : Nat, i < n → f (i : Int) () = some (.n ())) : toE 0 (n : Int) f () = some (.n ()) := by
  rcases toE_inv (fun _ (_ : Unit) => True) (fun (_ : ρ) => False) f n hn (s := ()) trivial (fun i s hi _ => .inl ⟨(), hs i hi, trivial⟩) with ⟨s, h, _⟩ | ⟨v, _, h⟩
  · exact h
  · exact h.elim
theorem same_refl {l : List Opd} {fuel : Nat} (h : l.length ≤ 1048576) : p_dyehouseref12_same fuel l l = some true := by
  unfold p_dyehouseref12_same
  rw [if_neg (by simp), toE_all (by omega) (fun i hi => ?_)]
  · rfl
  · obtain ⟨x, hx⟩ := getAt hi
    unfold p_dyehouseref12_same_b1
    simp [idx_nat hx]
theorem texts_refl {l : List ByteArray} {fuel : Nat} (h : l.length ≤ 1048576) : p_dyehouseref12_Texts fuel l l = some true := by
  unfold p_dyehouseref12_Texts
  rw [if_neg (by simp), toE_all (by omega) (fun i hi => ?_)]
  · rfl
  · obtain ⟨x, hx⟩ := getAt hi
    unfold p_dyehouseref12_Texts_b1
    simp [idx_nat hx]
theorem ints_refl {l : List Int} {fuel : Nat} (h : l.length ≤ 1048576) : p_dyehouseref12_Ints fuel l l = some true := by
  unfold p_dyehouseref12_Ints
  rw [if_neg (by simp), toE_all (by omega) (fun i hi => ?_)]
  · rfl
  · obtain ⟨x, hx⟩ := getAt hi
    unfold p_dyehouseref12_Ints_b1
    simp [idx_nat hx]
theorem instr_refl {i : Ins} {fuel : Nat} (h : iIr i) : p_dyehouseref12_Instr fuel i i = some true := by
  unfold p_dyehouseref12_Instr
  simp [same_refl h.1, texts_refl h.2.1, ints_refl h.2.2]
theorem foldl_app {α β : Type} (h : α → List β) : ∀ (xs : List α) (s : List β), xs.foldl (fun s x => s ++ h x) s = s ++ xs.flatMap h
  | [], s => by simp
  | x :: xs, s => by rw [List.foldl_cons, foldl_app h xs, List.flatMap_cons, List.append_assoc]
theorem loop_app {α β ρ : Type} {xs : List α} {f : Int × List β → Option (Ex (Int × List β) ρ)} (h : α → List β) {s0 : List β} (hn : xs.length ≤ 4294967296) (hb : (s0 ++ xs.flatMap h).length ≤ 4294967296)
    (hs : ∀ (i : Nat) (x : α) (s : List β), xs[i]? = some x → (s ++ h x).length ≤ 4294967296 → f ((i : Int), s) = some (.n (((i + 1 : Nat) : Int), s ++ h x))) (he : ∀ s, f ((xs.length : Int), s) = some (.b ((xs.length : Int), s))) {fuel : Nat} (hf : xs.length < fuel) :
    loopE fuel f (0, s0) = some (.n ((xs.length : Int), s0 ++ xs.flatMap h)) := by
  rw [loop_fold (fun s x => s ++ h x) (fun _ => True) hn trivial (fun i x s hx hsq _ => ⟨hs i x s hx ?_, trivial⟩) he hf, foldl_app]
  rw [hsq, foldl_app]
  have hi : i < xs.length := (List.getElem?_eq_some_iff.1 hx).1
  have e : xs = xs.take i ++ x :: xs.drop (i + 1) := by
    have := List.take_append_drop i xs
    rw [List.drop_eq_getElem_cons hi, (List.getElem?_eq_some_iff.1 hx).2] at this
    exact this.symm
  rw [e] at hb
  simp only [List.flatMap_append, List.flatMap_cons, List.length_append] at hb
  simp only [List.length_append]
  omega
theorem foldl_any {α : Type} (p : α → Bool) : ∀ (xs : List α) (b : Bool), xs.foldl (fun s x => s || p x) b = (b || xs.any p)
  | [], b => by simp
  | x :: xs, b => by rw [List.foldl_cons, foldl_any p xs, List.any_cons, Bool.or_assoc]
/-- The value of an operand: a virtual register's number; no value: 0. -/
def vv (o : Opd) : Int × Bool := if o.kind = 1 then (o.n, true) else if o.kind = 2 ∨ o.kind = 3 then (o.tag, true) else (0, false)
theorem value_ok (fuel : Nat) (o : Opd) : p_ir_Value fuel o = some (vv o) := by
  unfold p_ir_Value vv
  by_cases h1 : o.kind = 1
  · simp [h1, bindE]
  · by_cases h2 : o.kind = 2
    · simp [h2, bindE]
    · by_cases h3 : o.kind = 3 <;> simp [h1, h2, h3, bindE]
theorem rvalue_ok (fuel : Nat) (o : Opd) : ∃ r, p_dyehouseref12_Value fuel o = some r ∧ r.2 = (vv o).2 ∧ ((vv o).2 = true → r.1 = (vv o).1) := by
  unfold p_dyehouseref12_Value vv
  by_cases h1 : o.kind = 1
  · exact ⟨_, by rw [if_pos (decide_eq_true h1)], by simp [h1], by simp [h1]⟩
  · refine ⟨_, by rw [if_neg (by simpa using h1)], ?_, ?_⟩
    · by_cases h2 : o.kind = 2 <;> by_cases h3 : o.kind = 3 <;> simp [h1, h2, h3]
    · by_cases h2 : o.kind = 2 <;> by_cases h3 : o.kind = 3 <;> simp [h1, h2, h3]
/-- What an instruction takes, each once. -/
def usesS (s : List Int) (x : Opd) : List Int := if (vv x).2 = true ∧ (vv x).1 ∉ s then s ++ [(vv x).1] else s
theorem uses_len : ∀ (xs : List Opd) (s : List Int), (xs.foldl usesS s).length ≤ s.length + xs.length
  | [], s => by simp
  | x :: xs, s => by
    rw [List.foldl_cons]
    have h1 := uses_len xs (usesS s x)
    have h2 : (usesS s x).length ≤ s.length + 1 := by unfold usesS; split <;> simp
    simp only [List.length_cons]
    omega
theorem uses_ir {i : Ins} (h : i.args.length ≤ 1048576) {fuel : Nat} (hf : 1048576 < fuel) : p_ir_Uses fuel i = some (i.args.foldl usesS []) := by
  unfold p_ir_Uses
  rw [loop_fold (xs := i.args) usesS (fun _ => True) (by omega) trivial (fun k x s hx hs _ => ⟨?_, trivial⟩) (fun s => ?_) (by omega)]
  · rfl
  · have hk : k < i.args.length := (List.getElem?_eq_some_iff.1 hx).1
    have hl : s.length ≤ k := by
      have := uses_len (i.args.take k) []
      rw [← hs] at this
      simp at this
      omega
    dsimp only
    unfold p_ir_Uses_b1
    have hc : ∀ v, p_slices_Contains_int_int fuel s v = some (decide (v ∈ s)) := fun v => in_sl (l := s) (by omega) (by omega) v
    rw [if_pos (decide_eq_true (by omega)), idx_nat hx, Option.bind_some, value_ok, Option.bind_some, wrap1 (by omega)]
    simp only [hc]
    unfold usesS
    by_cases c1 : (vv x).2 = true <;> by_cases c2 : (vv x).1 ∈ s <;> simp [c1, c2, app_ok (show s.length + [(vv x).1].length ≤ 4294967296 by simp; omega)]
  · dsimp only
    unfold p_ir_Uses_b1
    rw [if_neg (by simp)]
theorem uses_ref {i : Ins} (h : i.args.length ≤ 1048576) {fuel : Nat} : p_dyehouseref12_Uses fuel i = some (i.args.foldl usesS []) := by
  unfold p_dyehouseref12_Uses
  rw [toN_fold (xs := i.args) usesS (fun _ => True) (by omega) trivial (fun k x s hx hs _ => ⟨?_, trivial⟩)]
  · rfl
  · have hk : k < i.args.length := (List.getElem?_eq_some_iff.1 hx).1
    have hl : s.length ≤ k := by
      have := uses_len (i.args.take k) []
      rw [← hs] at this
      simp at this
      omega
    obtain ⟨r, h1, h2, h3⟩ := rvalue_ok fuel x
    unfold p_dyehouseref12_Uses_b1
    rw [idx_nat hx, Option.bind_some, h1, Option.bind_some]
    obtain ⟨r1, r2⟩ := r
    simp only at h2 h3
    subst h2
    unfold usesS
    by_cases c1 : (vv x).2 = true
    · have e := h3 c1
      subst e
      by_cases c2 : (vv x).1 ∈ s <;> simp [c1, c2, in_ref (l := s) (by omega), app_ok (show s.length + [(vv x).1].length ≤ 4294967296 by simp; omega)]
    · simp [c1]
theorem class_ir {f : Fnc} {v : Int} (h : f.regs.length ≤ 1048576) {fuel : Nat} (hf : 1048576 < fuel) : p_ir_Class fuel f v = some (match firstAt (fun x : Rg => decide (x.id = v)) 0 f.regs with | some r => (r.2.cls, true) | none => (0, false)) := by
  unfold p_ir_Class
  rw [loop_find (xs := f.regs) (fun x : Rg => decide (x.id = v)) (fun _ x => (x.cls, true)) (fun i x hx => ?_) ?_ (by omega)]
  · cases firstAt (fun x : Rg => decide (x.id = v)) 0 f.regs <;> rfl
  · unfold p_ir_Class_b1
    rw [if_neg (by simp)]
  · have hi : i < f.regs.length := (List.getElem?_eq_some_iff.1 hx).1
    unfold p_ir_Class_b1
    rw [if_pos (decide_eq_true (by omega)), idx_nat hx, Option.bind_some, wrap1 (by omega)]
theorem class_ref {f : Fnc} {v : Int} (h : f.regs.length ≤ 1048576) {fuel : Nat} : p_dyehouseref12_Class fuel f v = some (match firstAt (fun x : Rg => decide (x.id = v)) 0 f.regs with | some r => r.2.cls | none => -1) := by
  unfold p_dyehouseref12_Class
  rw [toE_find (fun x : Rg => decide (x.id = v)) (fun _ x => x.cls) (by omega) (fun i x hx => ?_)]
  · cases firstAt (fun x : Rg => decide (x.id = v)) 0 f.regs <;> rfl
  · unfold p_dyehouseref12_Class_b1
    rw [idx_nat hx, Option.bind_some]
theorem has_ok {f : Fnc} {v : Int} (h : f.regs.length ≤ 1048576) {fuel : Nat} : toN 0 (f.regs.length : Int) (fun i s => p_dyehouselaw12_IrAsks_b5 fuel f v i s) false = some (f.regs.any fun x => decide (x.id = v)) := by
  rw [toN_fold (fun s x => s || decide (x.id = v)) (fun _ => True) (by omega) trivial (fun i x s hx _ _ => ⟨?_, trivial⟩), foldl_any]
  · simp
  · unfold p_dyehouselaw12_IrAsks_b5
    rw [idx_nat hx]
    cases s <;> simp
theorem find_ir {f : Fnc} {l : ByteArray} (h : f.blocks.length ≤ 1048576) {fuel : Nat} (hf : 1048576 < fuel) : p_ir_Find fuel f l = some (match firstAt (fun x : Bl => decide (x.label = l)) 0 f.blocks with | some r => (r.1 : Int) | none => -1) := by
  unfold p_ir_Find p_slices_IndexFunc_api_Block_api_Block_at_ir_Find_1
  rw [loop_find (xs := f.blocks) (fun x : Bl => decide (x.label = l)) (fun i _ => (i : Int)) (fun i x hx => ?_) ?_ (by omega)]
  · cases firstAt (fun x : Bl => decide (x.label = l)) 0 f.blocks <;> rfl
  · unfold p_slices_IndexFunc_api_Block_api_Block_at_ir_Find_1_b1
    rw [if_neg (by simp)]
  · have hi : i < f.blocks.length := (List.getElem?_eq_some_iff.1 hx).1
    unfold p_slices_IndexFunc_api_Block_api_Block_at_ir_Find_1_b1
    rw [if_pos (decide_eq_true (by omega)), idx_nat hx, Option.bind_some, wrap1 (by omega)]
    rfl
theorem find_ref {f : Fnc} {l : ByteArray} (h : f.blocks.length ≤ 1048576) {fuel : Nat} : p_dyehouseref12_Find fuel f l = some (match firstAt (fun x : Bl => decide (x.label = l)) 0 f.blocks with | some r => (r.1 : Int) | none => -1) := by
  unfold p_dyehouseref12_Find
  rw [toE_find (fun x : Bl => decide (x.label = l)) (fun i _ => (i : Int)) (by omega) (fun i x hx => ?_)]
  · cases firstAt (fun x : Bl => decide (x.label = l)) 0 f.blocks <;> rfl
  · unfold p_dyehouseref12_Find_b1
    rw [idx_nat hx, Option.bind_some]
/-- How many instructions some blocks have. -/
def cnt (bs : List Bl) : Nat := (bs.map fun b => b.code.length).sum
theorem cnt_take {bs : List Bl} {i : Nat} {b : Bl} (h : bs[i]? = some b) : cnt (bs.take (i + 1)) = cnt (bs.take i) + b.code.length := by
  unfold cnt
  rw [List.take_add_one, h]
  simp
theorem cnt_le {bs : List Bl} (i : Nat) : cnt (bs.take i) ≤ cnt bs := by
  have e : cnt bs = cnt (bs.take i) + cnt (bs.drop i) := by
    unfold cnt
    rw [← List.sum_append, ← List.map_append, List.take_append_drop]
  omega
theorem count_ok {f : Fnc} (h : f.blocks.length ≤ 1048576) (hc : cnt f.blocks ≤ 1048576) {fuel : Nat} (hf : 1048576 < fuel) : p_ir_Count fuel f = some (cnt f.blocks : Int) := by
  unfold p_ir_Count
  rcases loopE_inv (ρ := Int) (fun s : Int × Int => ∃ k : Nat, k ≤ f.blocks.length ∧ s.2 = (k : Int) ∧ s.1 = (cnt (f.blocks.take k) : Int)) (fun s => s.1 = (cnt f.blocks : Int)) (fun _ => False) (fun s => f.blocks.length - s.2.toNat) (fun s => p_ir_Count_b1 fuel f s.1 s.2) (by
    rintro ⟨s1, s2⟩ ⟨k, hk, e1, e2⟩
    simp only at e1 e2
    subst e1
    subst e2
    by_cases hlt : k < f.blocks.length
    · obtain ⟨b, hb⟩ := getAt hlt
      have h1 := cnt_take hb
      have h2 := cnt_le (bs := f.blocks) (k + 1)
      refine .inl ⟨((cnt (f.blocks.take (k + 1)) : Int), ((k + 1 : Nat) : Int)), ?_, ⟨k + 1, by omega, rfl, rfl⟩, by simp; omega⟩
      dsimp only
      unfold p_ir_Count_b1
      rw [if_pos (decide_eq_true (by omega)), idx_nat hb, Option.bind_some, wrap1 (by omega), wrap_in (by omega) (by omega), h1]
      rfl
    · have hkn : k = f.blocks.length := by omega
      subst hkn
      refine .inr (.inl ⟨((cnt f.blocks : Int), (f.blocks.length : Int)), ?_, rfl⟩)
      dsimp only
      unfold p_ir_Count_b1
      rw [if_neg (by simp), List.take_length]) fuel (0, 0) ⟨0, by omega, rfl, rfl⟩ (by simp; omega) with ⟨⟨s1, s2⟩, h1, h2⟩ | ⟨_, _, h2⟩
  · rw [h1]
    simp only at h2
    subst h2
    rfl
  · exact h2.elim
/-- The names of those that are called. -/
def nm1 (i : Ins) : List ByteArray := if i.op = 19 then [i.name] else []
def nmsL (f : Fnc) : List ByteArray := f.blocks.flatMap fun b => b.code.flatMap nm1
theorem nm1_len (i : Ins) : (nm1 i).length ≤ 1 := by unfold nm1; split <;> simp
theorem nmb_len : ∀ l : List Ins, (l.flatMap nm1).length ≤ l.length
  | [] => by simp
  | i :: l => by
    rw [List.flatMap_cons, List.length_append, List.length_cons]
    have := nm1_len i
    have := nmb_len l
    omega
theorem nms_len : ∀ bs : List Bl, (bs.flatMap fun b => b.code.flatMap nm1).length ≤ cnt bs
  | [] => by simp [cnt]
  | b :: bs => by
    rw [List.flatMap_cons, List.length_append]
    have h1 := nmb_len b.code
    have h2 := nms_len bs
    simp only [cnt, List.map_cons, List.sum_cons] at h2 ⊢
    omega
/-- Who is called, rising, each once. -/
def callsL (f : Fnc) : List ByteArray := (Lib.compact (((nmsL f).map bstr).mergeSort fun x y => decide (x ≤ y))).map strb
theorem calls_ok {f : Fnc} (h : fIr f) (hc : cnt f.blocks ≤ 1048576) {fuel : Nat} (hf : 1048576 < fuel) : p_ir_Calls fuel f = some (callsL f) := by
  have hn := nms_len f.blocks
  unfold p_ir_Calls
  rw [loop_app (xs := f.blocks) (fun b : Bl => b.code.flatMap nm1) (by have := h.2.2.1; omega) (by rw [List.nil_append]; omega) (fun i b s hb hl => ?_) (fun s => ?_) (by have := h.2.2.1; omega)]
  · show ((p_slices_Sort_string_string fuel ([] ++ nmsL f)).bind fun m3 => (p_slices_Compact_string_string fuel m3).bind fun r1 => some r1) = _
    have hN : (nmsL f).length ≤ 1048576 := Nat.le_trans hn hc
    rw [List.nil_append]
    unfold p_slices_Sort_string_string
    rw [if_pos (by omega), Option.bind_some]
    unfold p_slices_Compact_string_string
    rw [if_pos (by simp; omega), Option.bind_some, List.map_map, show bstr ∘ strb = id from funext bstr_strb, List.map_id]
    rfl
  · have hi : i < f.blocks.length := (List.getElem?_eq_some_iff.1 hb).1
    obtain ⟨k1, k2, k3⟩ := h.2.2.2 b (List.mem_of_getElem? hb)
    have hbl := h.2.2.1
    dsimp only
    unfold p_ir_Calls_b1
    rw [if_pos (decide_eq_true (by omega)), idx_nat hb, Option.bind_some, loop_app (xs := b.code) nm1 (by omega) hl (fun j x t hx ht => ?_) (fun t => ?_) (by omega), wrap1 (by omega)]
    · rfl
    · have hj : j < b.code.length := (List.getElem?_eq_some_iff.1 hx).1
      dsimp only
      unfold p_ir_Calls_b2
      rw [if_pos (decide_eq_true (by omega)), idx_nat hx, Option.bind_some, wrap1 (by omega)]
      unfold nm1 at ht ⊢
      by_cases c : x.op = 19
      · rw [if_pos c] at ht ⊢
        rw [if_pos (decide_eq_true c), app_ok (by simpa using ht)]
        rfl
      · rw [if_neg c, List.append_nil, if_neg (by simpa using c)]
        rfl
    · dsimp only
      unfold p_ir_Calls_b2
      rw [if_neg (by simp)]
  · dsimp only
    unfold p_ir_Calls_b1
    rw [if_neg (by simp)]
theorem calls_mem {f : Fnc} {b : Bl} {i : Ins} (hb : b ∈ f.blocks) (hi : i ∈ b.code) (h : i.op = 19) : i.name ∈ callsL f := by
  have h1 : i.name ∈ nmsL f := List.mem_flatMap.2 ⟨b, hb, List.mem_flatMap.2 ⟨i, hi, by unfold nm1; rw [if_pos h]; simp⟩⟩
  have h2 : bstr i.name ∈ ((nmsL f).map bstr).mergeSort fun x y => decide (x ≤ y) := List.mem_mergeSort.2 (List.mem_map.2 ⟨_, h1, rfl⟩)
  exact List.mem_map.2 ⟨_, mem_compact h2, strb_bstr _⟩
theorem calls_len {f : Fnc} : (callsL f).length ≤ cnt f.blocks := by
  unfold callsL
  rw [List.length_map]
  have h1 := Lib.compact_length_le (((nmsL f).map bstr).mergeSort fun x y => decide (x ≤ y))
  rw [List.length_mergeSort, List.length_map] at h1
  exact Nat.le_trans h1 (nms_len f.blocks)
theorem calls_rise {f : Fnc} {i : Nat} {x y : ByteArray} (hx : (callsL f)[i]? = some x) (hy : (callsL f)[i + 1]? = some y) : slt x y = true := by
  unfold callsL at hx hy
  rw [List.getElem?_map] at hx hy
  obtain ⟨a, ha, rfl⟩ := Option.map_eq_some_iff.1 hx
  obtain ⟨b, hb, rfl⟩ := Option.map_eq_some_iff.1 hy
  rw [slt_strb]
  have hs : (((nmsL f).map bstr).mergeSort fun x y => decide (x ≤ y)).Pairwise (fun x y => x ≤ y) := by
    have := List.pairwise_mergeSort (le := fun x y : List UInt8 => decide (x ≤ y)) (fun a b c h1 h2 => decide_eq_true (List.le_trans (of_decide_eq_true h1) (of_decide_eq_true h2))) (fun a b => by
      rcases List.le_total a b with h | h <;> simp [h]) ((nmsL f).map bstr)
    exact this.imp fun h => of_decide_eq_true h
  have hr := compact_rising hs
  obtain ⟨h1, e1⟩ := List.getElem?_eq_some_iff.1 ha
  obtain ⟨h2, e2⟩ := List.getElem?_eq_some_iff.1 hb
  have := List.pairwise_iff_getElem.1 hr i (i + 1) h1 h2 (by omega)
  rw [e1, e2] at this
  exact decide_eq_true this
theorem iIr_map {T : Opd → Opd} {i : Ins} (h : iIr i) : iIr (mapI T i) := ⟨by simpa [mapI] using h.1, h.2.1, h.2.2⟩
theorem step_ok {f : Fnc} {b : Bl} {i : Ins} (hi : iIr i) (hb : b ∈ f.blocks) (hm : i ∈ b.code) (hl : (callsL f).length ≤ 1048576) {k : Nat} (hk : b.code[k]? = some i) {n : Nat} (hn : n ≤ 1048576) : p_dyehouselaw12_IrAsks_b2 1048577 (callsL f) b (k : Int) (n : Int) = some (.n ((n + 1 : Nat) : Int)) := by
  unfold p_dyehouselaw12_IrAsks_b2
  obtain ⟨⟨q1, q2⟩, h1, h2, h3⟩ := rvalue_ok 1048577 i.dst
  have hmm : mapI swp (mapI swp i) = i := congrFun (mapI_mapI swp swp swp_swp) i
  have hu : ((i.args.foldl usesS [])).length ≤ 1048576 := by
    have h := uses_len i.args []
    have := hi.1
    simp only [List.length_nil] at h
    omega
  have hmet : toN 0 ((callsL f).length : Int) (fun i3 s => p_dyehouselaw12_IrAsks_b3 1048577 (callsL f) i i3 s) false = some ((callsL f).any fun y => decide (y = i.name)) := by
    rw [toN_fold (fun s y => s || decide (y = i.name)) (fun _ => True) (by omega) trivial (fun j x s hx _ _ => ⟨?_, trivial⟩), foldl_any]
    · simp
    · unfold p_dyehouselaw12_IrAsks_b3
      rw [idx_nat hx]
      cases s <;> simp
  have hmem : i.op = 19 → ((callsL f).any fun y => decide (y = i.name)) = true := fun h => List.any_eq_true.2 ⟨_, calls_mem hb hm h, by simp⟩
  have hd : p_ir_Def 1048577 i = some (vv i.dst) := by
    unfold p_ir_Def
    rw [value_ok]
    rfl
  have hz : (vv i.dst).2 ≠ true → (vv i.dst).1 = 0 := by
    intro c
    unfold vv at c ⊢
    split
    · rename_i h; simp [h] at c
    · split
      · rename_i h1 h; simp [h1, h] at c
      · rfl
  rw [idx_nat hk, Option.bind_some, mapI_dyehouselaw12_IrAsks_1 hi (by omega), Option.bind_some, mapI_dyehouselaw12_IrAsks_2 (iIr_map hi) (by omega), Option.bind_some, value_ok, Option.bind_some, hmm]
  rw [hd]
  generalize vv i.dst = w at *
  obtain ⟨w1, w2⟩ := w
  dsimp only at h2 h3 hz ⊢
  subst h2
  rw [h1, Option.bind_some]
  dsimp only
  rw [instr_refl hi, Option.bind_some]
  rw [if_neg (by
    by_cases c : q2 = true
    · simp [c, h3 c, mapI, swp]
    · simp [c, hz c, mapI, swp])]
  rw [Option.bind_some]
  dsimp only
  rw [if_neg (by simp), uses_ir hi.1 (by omega), Option.bind_some, uses_ref hi.1, Option.bind_some, ints_refl hu, Option.bind_some, Option.bind_some, if_neg (by simp), hmet, Option.bind_some, if_neg (by
    by_cases c : i.op = 19
    · simp only [hmem c]
      simp
    · simp [c]), wrap1 (by omega)]
theorem steps_ok {f : Fnc} (h : fIr f) (hc : cnt f.blocks ≤ 1048576) : toE 0 (f.blocks.length : Int) (fun i s => p_dyehouselaw12_IrAsks_b1 1048577 f (callsL f) i s) 0 = some (.n (cnt f.blocks : Int)) := by
  have hl : (callsL f).length ≤ 1048576 := Nat.le_trans calls_len hc
  rcases toE_inv (ρ := Bool) (fun k s => s = (cnt (f.blocks.take k) : Int)) (fun _ => False) (fun i s => p_dyehouselaw12_IrAsks_b1 1048577 f (callsL f) i s) f.blocks.length (by have := h.2.2.1; omega) (s := 0) rfl (by
    rintro k s hk rfl
    obtain ⟨b, hb⟩ := getAt hk
    have hbm := List.mem_of_getElem? hb
    obtain ⟨k1, k2, k3⟩ := h.2.2.2 b hbm
    have e1 := cnt_take hb
    have e2 := cnt_le (bs := f.blocks) (k + 1)
    refine .inl ⟨_, ?_, rfl⟩
    unfold p_dyehouselaw12_IrAsks_b1
    rw [idx_nat hb, Option.bind_some]
    rcases toE_inv (ρ := Ex Int Bool) (fun j s => s = ((cnt (f.blocks.take k) + j : Nat) : Int)) (fun _ => False) (fun i s => p_dyehouselaw12_IrAsks_b2 1048577 (callsL f) b i s) b.code.length (by omega) (s := (cnt (f.blocks.take k) : Int)) rfl (by
      rintro j s hj rfl
      obtain ⟨x, hx⟩ := getAt hj
      have hxm := List.mem_of_getElem? hx
      exact .inl ⟨_, step_ok (k3 x hxm) hbm hxm hl hx (by omega), by rw [Nat.add_assoc]⟩) with ⟨s, h1, h2⟩ | ⟨_, _, h2⟩
    · rw [h1, h2, e1]
      rfl
    · exact h2.elim) with ⟨s, h1, h2⟩ | ⟨_, _, h2⟩
  · rw [h1, h2, List.take_length]
  · exact h2.elim
theorem rise_ok {f : Fnc} (hl : (callsL f).length ≤ 1048576) : toE 1 ((callsL f).length : Int) (fun i _ => p_dyehouselaw12_IrAsks_b4 1048577 (callsL f) i) () = some (.n ()) := by
  unfold toE
  rw [if_pos (by constructor <;> omega)]
  by_cases h0 : (callsL f).length = 0
  · rw [h0]
    rfl
  · rw [show (((callsL f).length : Int) - 1).toNat = (callsL f).length - 1 by omega]
    rcases forE_inv (ρ := Bool) (fun k (_ : Unit) => 1 ≤ k) (fun _ => False) (fun i _ => p_dyehouselaw12_IrAsks_b4 1048577 (callsL f) i) (callsL f).length (by
      rintro k s hk h1
      obtain ⟨m, rfl⟩ : ∃ m, k = m + 1 := ⟨k - 1, by omega⟩
      obtain ⟨x, hx⟩ := getAt (xs := callsL f) (i := m) (by omega)
      obtain ⟨y, hy⟩ := getAt hk
      refine .inl ⟨(), ?_, by omega⟩
      unfold p_dyehouselaw12_IrAsks_b4
      rw [wrap_in (by omega) (by omega), show ((m + 1 : Nat) : Int) - 1 = (m : Int) by omega, idx_nat hx, Option.bind_some, idx_nat hy, Option.bind_some, if_neg (by rw [calls_rise hx hy]; simp)]) ((callsL f).length - 1) 1 () (by omega) (by omega) with ⟨s, h1, _⟩ | ⟨_, _, h2⟩
    · exact h1
    · exact h2.elim
theorem asks_law {f : Fnc} (h : fIr f) (hc : cnt f.blocks ≤ 1048576) (v : Int) (l : ByteArray) : p_dyehouselaw12_IrAsks 1048577 f v l = some true := by
  have hl : (callsL f).length ≤ cnt f.blocks := calls_len
  unfold p_dyehouselaw12_IrAsks
  obtain ⟨b, hL⟩ := Large_ok h 1048577
  rw [hL, Option.bind_some]
  by_cases c : (b || (decide (100 < (l.size : Int)))) = true
  · rw [if_pos c, works_ok]; rfl
  · rw [if_neg c, class_ir h.1 (by omega), Option.bind_some, class_ref h.1, calls_ok h hc (by omega), find_ir h.2.2.1 (by omega), find_ref h.2.2.1, count_ok h.2.2.1 hc (by omega), works_ok, has_ok h.1]
    have ha := firstAt_any (fun x : Rg => decide (x.id = v)) f.regs 0
    dsimp only
    rw [Option.bind_some, Option.bind_some, steps_ok h hc]
    show bindE (toE 1 ((callsL f).length : Int) _ ()) _ _ = _
    rw [rise_ok (by omega)]
    have hl' : ((callsL f).length : Int) ≤ (cnt f.blocks : Int) := by omega
    cases hq : firstAt (fun x : Rg => decide (x.id = v)) 0 f.regs with
    | none =>
      rw [hq] at ha
      have ha' : (f.regs.any fun x => decide (x.id = v)) = false := ha.symm
      simp [bindE, ha', hl']
    | some r =>
      rw [hq] at ha
      have ha' : (f.regs.any fun x => decide (x.id = v)) = true := ha.symm
      simp [bindE, ha', hl']
end Go.Proofs.Ytodafoajkajnkaa.PL
