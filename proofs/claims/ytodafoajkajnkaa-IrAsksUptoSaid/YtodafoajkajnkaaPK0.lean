/- Loops that look for the first of its kind; sorted lists where each stands once. Nothing here speaks of a program. -/
import Derived.Test.YtodafoajkajnkaaPI0
import Derived.Sort.Walk0
import Derived.Lib.RowBridge
set_option linter.unusedVariables false
namespace Go.Proofs.Ytodafoajkajnkaa.PL
open Go
/-- The first that is so, and where. -/
def firstAt {α : Type} (p : α → Bool) : Nat → List α → Option (Nat × α)
  | _, [] => none
  | k, x :: xs => if p x = true then some (k, x) else firstAt p (k + 1) xs
theorem firstAt_drop {α : Type} {p : α → Bool} {xs : List α} {k : Nat} {x : α} (hx : xs[k]? = some x) : firstAt p k (xs.drop k) = if p x = true then some (k, x) else firstAt p (k + 1) (xs.drop (k + 1)) := by
  have hk : k < xs.length := (List.getElem?_eq_some_iff.1 hx).1
  rw [List.drop_eq_getElem_cons hk, (List.getElem?_eq_some_iff.1 hx).2, firstAt]
theorem firstAt_any {α : Type} (p : α → Bool) : ∀ (xs : List α) (k : Nat), (firstAt p k xs).isSome = xs.any p
  | [], _ => rfl
  | x :: xs, k => by
    rw [firstAt, List.any_cons]
    by_cases h : p x = true
    · simp [h]
    · rw [if_neg h, firstAt_any p xs]
      simp [h]
theorem loop_find {α ρ : Type} {xs : List α} {f : Int → Option (Ex Int ρ)} (p : α → Bool) (h : Nat → α → ρ)
    (hs : ∀ (i : Nat) (x : α), xs[i]? = some x → f (i : Int) = if p x = true then some (.r (h i x)) else some (.n ((i + 1 : Nat) : Int))) (he : f (xs.length : Int) = some (.b (xs.length : Int))) {fuel : Nat} (hf : xs.length < fuel) :
    loopE fuel f 0 = match firstAt p 0 xs with | some r => some (.r (h r.1 r.2)) | none => some (.n (xs.length : Int)) := by
  have key : ∀ (m k : Nat), k + m = xs.length → ∀ fuel, m < fuel → loopE fuel f (k : Int) = match firstAt p k (xs.drop k) with | some r => some (.r (h r.1 r.2)) | none => some (.n (xs.length : Int)) := by
    intro m
    induction m with
    | zero =>
      intro k hk fuel hf
      obtain ⟨n, rfl⟩ : ∃ n, fuel = n + 1 := ⟨fuel - 1, by omega⟩
      have hkn : k = xs.length := by omega
      subst hkn
      rw [loopE, he, List.drop_length, firstAt]
      rfl
    | succ m ih =>
      intro k hk fuel hf
      obtain ⟨n, rfl⟩ : ∃ n, fuel = n + 1 := ⟨fuel - 1, by omega⟩
      obtain ⟨x, hx⟩ := getAt (xs := xs) (i := k) (by omega)
      rw [loopE, hs k x hx, firstAt_drop hx]
      by_cases e : p x = true
      · rw [if_pos e, if_pos e]
        rfl
      · rw [if_neg e, if_neg e]
        exact ih (k + 1) (by omega) n (by omega)
  simpa using key xs.length 0 (by omega) fuel hf
theorem toE_find {α ρ : Type} {xs : List α} {f : Int → Unit → Option (Ex Unit ρ)} (p : α → Bool) (h : Nat → α → ρ) (hn : xs.length ≤ 4294967296)
    (hs : ∀ (i : Nat) (x : α), xs[i]? = some x → f (i : Int) () = if p x = true then some (.r (h i x)) else some (.n ())) :
    toE 0 (xs.length : Int) f () = match firstAt p 0 xs with | some r => some (.r (h r.1 r.2)) | none => some (.n ()) := by
  have key : ∀ (m k : Nat), k + m = xs.length → forE m (k : Int) f () = match firstAt p k (xs.drop k) with | some r => some (.r (h r.1 r.2)) | none => some (.n ()) := by
    intro m
    induction m with
    | zero =>
      intro k hk
      have hkn : k = xs.length := by omega
      subst hkn
      rw [forE, List.drop_length, firstAt]
    | succ m ih =>
      intro k hk
      obtain ⟨x, hx⟩ := getAt (xs := xs) (i := k) (by omega)
      rw [forE, hs k x hx, firstAt_drop hx]
      by_cases e : p x = true
      · rw [if_pos e, if_pos e]
        rfl
      · rw [if_neg e, if_neg e]
        exact ih (k + 1) (by omega)
  unfold toE
  rw [if_pos (by constructor <;> omega)]
  simpa using key xs.length 0 (by omega)
/-- Of a sorted list what stands alike once is rising. -/
theorem compact_rising {zs : List (List UInt8)} (h : zs.Pairwise (fun x y => x ≤ y)) : (Lib.compact zs).Pairwise (fun x y => x < y) := by
  unfold Lib.compact Lib.compactUpTo
  rw [List.pairwise_map, List.pairwise_filter]
  have hg : ∀ i j : Nat, i ≤ j → j < zs.length → zs.toArray[i]! ≤ zs.toArray[j]! := by
    intro i j hij hj
    by_cases e : i = j
    · subst e; exact List.le_refl _
    · have := List.pairwise_iff_getElem.1 h i j (by omega) hj (by omega)
      have hi : i < zs.length := by omega
      simpa [hi, hj] using this
  refine List.Pairwise.imp_of_mem ?_ List.pairwise_lt_range
  intro i j hi hj hij ki kj
  rw [List.mem_range] at hi hj
  have hk : j = 0 ∨ zs.toArray[j]! ≠ zs.toArray[j - 1]! := of_decide_eq_true kj
  have h1 : zs.toArray[i]! ≤ zs.toArray[j - 1]! := hg i (j - 1) (by omega) (by omega)
  have h2 : zs.toArray[j - 1]! ≤ zs.toArray[j]! := hg (j - 1) j (by omega) hj
  rcases hk with hk | hk
  · omega
  · have h3 : zs.toArray[j - 1]! < zs.toArray[j]! := by
      rcases Classical.em (zs.toArray[j - 1]! < zs.toArray[j]!) with q | q
      · exact q
      · exact absurd (List.le_antisymm q h2) hk
    exact List.lt_of_le_of_lt h1 h3
/-- Whatever is in a list is in what is left. -/
theorem mem_compact {zs : List (List UInt8)} {x : List UInt8} (h : x ∈ zs) : x ∈ Lib.compact zs := by
  unfold Lib.compact Lib.compactUpTo
  obtain ⟨j, hj, hx⟩ := List.getElem_of_mem h
  have : ∀ (j : Nat), j < zs.length → zs.toArray[j]! = x → ∃ k, k < zs.length ∧ zs.toArray[k]! = x ∧ (k = 0 ∨ zs.toArray[k]! ≠ zs.toArray[k - 1]!) := by
    intro j
    induction j with
    | zero => exact fun h1 h2 => ⟨0, h1, h2, .inl rfl⟩
    | succ j ih =>
      intro h1 h2
      by_cases e : zs.toArray[j + 1]! = zs.toArray[j]!
      · exact ih (by omega) (by rw [← e]; exact h2)
      · exact ⟨j + 1, h1, h2, .inr e⟩
  obtain ⟨k, h1, h2, h3⟩ := this j hj (by simpa [hj] using hx)
  refine List.mem_map.2 ⟨k, List.mem_filter.2 ⟨List.mem_range.2 h1, decide_eq_true h3⟩, h2⟩
theorem slt_strb (x y : List UInt8) : slt (strb x) (strb y) = decide (x < y) := by
  unfold slt strb
  rw [Proofs.bytesLess_eq, Lib.toList_data, Lib.toList_data]
end Go.Proofs.Ytodafoajkajnkaa.PL
