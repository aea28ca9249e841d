/- Loops that compare two lists. Nothing here speaks of a program. -/
import Derived.Test.YtodafoajkajnkaaPI0
set_option linter.unusedVariables false
namespace Go.Proofs.Ytodafoajkajnkaa.PL
open Go
theorem drop_eq_iff {α : Type} {a b : List α} {k : Nat} {x y : α} (hx : a[k]? = some x) (hy : b[k]? = some y) : a.drop k = b.drop k ↔ x = y ∧ a.drop (k + 1) = b.drop (k + 1) := by
  have ha : k < a.length := (List.getElem?_eq_some_iff.1 hx).1
  have hb : k < b.length := (List.getElem?_eq_some_iff.1 hy).1
  rw [List.drop_eq_getElem_cons ha, List.drop_eq_getElem_cons hb, List.cons.injEq, (List.getElem?_eq_some_iff.1 hx).2, (List.getElem?_eq_some_iff.1 hy).2]
theorem loop_eq {α : Type} [DecidableEq α] {a b : List α} {f : Int → Option (Ex Int Bool)} (hl : a.length = b.length)
    (hs : ∀ (i : Nat) (x y : α), a[i]? = some x → b[i]? = some y → f (i : Int) = if x = y then some (.n ((i + 1 : Nat) : Int)) else some (.r false)) (he : f (a.length : Int) = some (.b (a.length : Int))) {fuel : Nat} (hf : a.length < fuel) :
    loopE fuel f 0 = if a = b then some (.n (a.length : Int)) else some (.r false) := by
  have key : ∀ (m k : Nat), k + m = a.length → ∀ fuel, m < fuel → loopE fuel f (k : Int) = if a.drop k = b.drop k then some (.n (a.length : Int)) else some (.r false) := by
    intro m
    induction m with
    | zero =>
      intro k hk fuel hf
      obtain ⟨n, rfl⟩ : ∃ n, fuel = n + 1 := ⟨fuel - 1, by omega⟩
      have hkn : k = a.length := by omega
      subst hkn
      rw [loopE, he, if_pos (by rw [List.drop_length, hl, List.drop_length])]
      rfl
    | succ m ih =>
      intro k hk fuel hf
      obtain ⟨n, rfl⟩ : ∃ n, fuel = n + 1 := ⟨fuel - 1, by omega⟩
      obtain ⟨x, hx⟩ := getAt (xs := a) (i := k) (by omega)
      obtain ⟨y, hy⟩ := getAt (xs := b) (i := k) (by omega)
      rw [loopE, hs k x y hx hy]
      by_cases e : x = y
      · rw [if_pos e]
        refine (ih (k + 1) (by omega) n (by omega)).trans ?_
        by_cases q : a.drop (k + 1) = b.drop (k + 1)
        · rw [if_pos q, if_pos ((drop_eq_iff hx hy).2 ⟨e, q⟩)]
        · rw [if_neg q, if_neg fun h => q ((drop_eq_iff hx hy).1 h).2]
      · rw [if_neg e, if_neg fun h => e ((drop_eq_iff hx hy).1 h).1]
        rfl
  simpa using key a.length 0 (by omega) fuel hf
theorem toE_eq {α : Type} [DecidableEq α] {a b : List α} {f : Int → Unit → Option (Ex Unit Bool)} (hl : a.length = b.length) (hn : a.length ≤ 4294967296)
    (hs : ∀ (i : Nat) (x y : α), a[i]? = some x → b[i]? = some y → f (i : Int) () = if x = y then some (.n ()) else some (.r false)) :
    toE 0 (a.length : Int) f () = if a = b then some (.n ()) else some (.r false) := by
  have key : ∀ (m k : Nat), k + m = a.length → forE m (k : Int) f () = if a.drop k = b.drop k then some (.n ()) else some (.r false) := by
    intro m
    induction m with
    | zero =>
      intro k hk
      have hkn : k = a.length := by omega
      subst hkn
      rw [forE, if_pos (by rw [List.drop_length, hl, List.drop_length])]
    | succ m ih =>
      intro k hk
      obtain ⟨x, hx⟩ := getAt (xs := a) (i := k) (by omega)
      obtain ⟨y, hy⟩ := getAt (xs := b) (i := k) (by omega)
      rw [forE, hs k x y hx hy]
      by_cases e : x = y
      · rw [if_pos e]
        refine (ih (k + 1) (by omega)).trans ?_
        by_cases q : a.drop (k + 1) = b.drop (k + 1)
        · rw [if_pos q, if_pos ((drop_eq_iff hx hy).2 ⟨e, q⟩)]
        · rw [if_neg q, if_neg fun h => q ((drop_eq_iff hx hy).1 h).2]
      · rw [if_neg e, if_neg fun h => e ((drop_eq_iff hx hy).1 h).1]
        rfl
  unfold toE
  rw [if_pos (by constructor <;> omega)]
  simpa using key a.length 0 (by omega)
end Go.Proofs.Ytodafoajkajnkaa.PL
