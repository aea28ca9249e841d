/- Plain facts about the pure functions: loops, finding a block, the targets of a block. -/
import Derived.Test.YtodafoajkajnkaaBp
set_option linter.unusedVariables false
set_option linter.unusedSimpArgs false
namespace Go.Proofs.Ytodafoajkajnkaa.PL
open Go

theorem idx_ok {α : Type} {xs : List α} {i : Int} {x : α} (h0 : 0 ≤ i) (h : xs[i.toNat]? = some x) : idx xs i = some x := by
  unfold idx; rw [if_pos h0, h]
theorem idx_nat {α : Type} {xs : List α} {i : Nat} {x : α} (h : xs[i]? = some x) : idx xs (i : Int) = some x := idx_ok (by omega) (by simpa using h)
theorem setI_nat {α : Type} {xs : List α} {i : Nat} {x : α} (h : i < xs.length) : setI xs (i : Int) x = some (xs.set i x) := by
  unfold setI; rw [if_pos (by constructor <;> omega)]; simp
theorem app_ok {α : Type} {xs ys : List α} (h : xs.length + ys.length ≤ 4294967296) : app xs ys = some (xs ++ ys) := by
  unfold app; rw [if_pos h]
theorem mk_nat {α : Type} {n : Nat} {z : α} (h : n ≤ 4294967296) : mk (n : Int) z = some (List.replicate n z) := by
  unfold mk; rw [if_pos (by constructor <;> omega)]; simp

theorem forN_inv {σ : Type} (I : Nat → σ → Prop) (f : Int → σ → Option σ) (n : Nat) (step : ∀ i s, i < n → I i s → ∃ s', f (i : Int) s = some s' ∧ I (i + 1) s') :
    ∀ (m i : Nat) (s : σ), i + m = n → I i s → ∃ s', forN m (i : Int) f s = some s' ∧ I n s' := by
  intro m
  induction m with
  | zero => intro i s h hI; exact ⟨s, rfl, by rw [← h]; simpa using hI⟩
  | succ m ih =>
    intro i s h hI
    obtain ⟨s1, h1, h2⟩ := step i s (by omega) hI
    obtain ⟨s2, h3, h4⟩ := ih (i + 1) s1 (by omega) h2
    refine ⟨s2, ?_, h4⟩
    rw [forN, h1]
    exact h3
theorem toN_inv {σ : Type} (I : Nat → σ → Prop) (f : Int → σ → Option σ) (n : Nat) (hn : n ≤ 4294967296) {s : σ} (h0 : I 0 s) (step : ∀ i s, i < n → I i s → ∃ s', f (i : Int) s = some s' ∧ I (i + 1) s') :
    ∃ s', toN 0 (n : Int) f s = some s' ∧ I n s' := by
  unfold toN
  rw [if_pos (by constructor <;> omega)]
  simpa using forN_inv I f n step n 0 s (by omega) h0
theorem forE_inv {σ ρ : Type} (I : Nat → σ → Prop) (R : ρ → Prop) (f : Int → σ → Option (Ex σ ρ)) (n : Nat) (step : ∀ i s, i < n → I i s → (∃ s', f (i : Int) s = some (.n s') ∧ I (i + 1) s') ∨ ∃ v, f (i : Int) s = some (.r v) ∧ R v) :
    ∀ (m i : Nat) (s : σ), i + m = n → I i s → (∃ s', forE m (i : Int) f s = some (.n s') ∧ I n s') ∨ ∃ v, forE m (i : Int) f s = some (.r v) ∧ R v := by
  intro m
  induction m with
  | zero => intro i s h hI; exact .inl ⟨s, rfl, by rw [← h]; simpa using hI⟩
  | succ m ih =>
    intro i s h hI
    rcases step i s (by omega) hI with ⟨s1, h1, h2⟩ | ⟨v, h1, h2⟩
    · rw [forE, h1]
      exact ih (i + 1) s1 (by omega) h2
    · rw [forE, h1]
      exact .inr ⟨v, rfl, h2⟩
theorem toE_inv {σ ρ : Type} (I : Nat → σ → Prop) (R : ρ → Prop) (f : Int → σ → Option (Ex σ ρ)) (n : Nat) (hn : n ≤ 4294967296) {s : σ} (h0 : I 0 s) (step : ∀ i s, i < n → I i s → (∃ s', f (i : Int) s = some (.n s') ∧ I (i + 1) s') ∨ ∃ v, f (i : Int) s = some (.r v) ∧ R v) :
    (∃ s', toE 0 (n : Int) f s = some (.n s') ∧ I n s') ∨ ∃ v, toE 0 (n : Int) f s = some (.r v) ∧ R v := by
  unfold toE
  rw [if_pos (by constructor <;> omega)]
  simpa using forE_inv I R f n step n 0 s (by omega) h0
theorem loopE_inv {σ ρ : Type} (I : σ → Prop) (B : σ → Prop) (R : ρ → Prop) (m : σ → Nat) (f : σ → Option (Ex σ ρ))
    (step : ∀ s, I s → (∃ s', f s = some (.n s') ∧ I s' ∧ m s' < m s) ∨ (∃ s', f s = some (.b s') ∧ B s') ∨ ∃ v, f s = some (.r v) ∧ R v) :
    ∀ (fuel : Nat) (s : σ), I s → m s < fuel → (∃ s', loopE fuel f s = some (.n s') ∧ B s') ∨ ∃ v, loopE fuel f s = some (.r v) ∧ R v := by
  intro fuel
  induction fuel with
  | zero => intro s _ h; omega
  | succ n ih =>
    intro s hI hm
    rcases step s hI with ⟨s1, h1, h2, h3⟩ | ⟨s1, h1, h2⟩ | ⟨v, h1, h2⟩
    · rw [loopE, h1]; exact ih s1 h2 (by omega)
    · rw [loopE, h1]; exact .inl ⟨s1, rfl, h2⟩
    · rw [loopE, h1]; exact .inr ⟨v, rfl, h2⟩
theorem wrap1 {n : Nat} (h : n ≤ 4294967296) : IntKind.i64.wrap ((n : Int) + 1) = ((n + 1 : Nat) : Int) := by
  rw [wrap_in (by omega) (by omega)]; omega
theorem getAt {α : Type} {xs : List α} {i : Nat} (h : i < xs.length) : ∃ x, xs[i]? = some x := ⟨xs[i], by simp [h]⟩

/-- The first block of a label, or -1. -/
def isFnd (bs : List Bl) (l : ByteArray) (r : Int) : Prop :=
  (∃ k : Nat, r = k ∧ (∃ b, bs[k]? = some b ∧ b.label = l) ∧ ∀ j < k, ∀ b, bs[j]? = some b → b.label ≠ l) ∨ (r = -1 ∧ ∀ (j : Nat) b, bs[j]? = some b → b.label ≠ l)
theorem isFnd_same {bs : List Bl} {l : ByteArray} {r s : Int} (h : isFnd bs l r) (k : isFnd bs l s) : r = s := by
  rcases h with ⟨a, rfl, ⟨b, h1, h2⟩, h3⟩ | ⟨rfl, h3⟩ <;> rcases k with ⟨c, rfl, ⟨d, k1, k2⟩, k3⟩ | ⟨rfl, k3⟩
  · rcases Nat.lt_trichotomy a c with h | h | h
    · exact absurd h2 (k3 a h b h1)
    · rw [h]
    · exact absurd k2 (h3 c h d k1)
  · exact absurd h2 (k3 a b h1)
  · exact absurd k2 (h3 c d k1)
  · rfl
theorem isFnd_lt {bs : List Bl} {l : ByteArray} {r : Int} (h : isFnd bs l r) : -1 ≤ r ∧ r < (bs.length : Int) := by
  rcases h with ⟨a, rfl, ⟨b, h1, h2⟩, h3⟩ | ⟨rfl, h3⟩
  · have := (List.getElem?_eq_some_iff.1 h1).1; omega
  · omega
theorem find_ref {f : Fnc} (hn : f.blocks.length ≤ 4294967296) (fuel : Nat) (l : ByteArray) : ∃ r, p_dyehouseref12_Find fuel f l = some r ∧ isFnd f.blocks l r := by
  unfold p_dyehouseref12_Find
  refine Or.elim (toE_inv (fun i (_ : Unit) => ∀ j < i, ∀ b, f.blocks[j]? = some b → b.label ≠ l) (fun r => isFnd f.blocks l r) (fun i _ => p_dyehouseref12_Find_b1 fuel f l i) f.blocks.length hn (s := ()) (by intro j h; omega) ?_) ?_ ?_
  rotate_left
  · rintro ⟨s, h1, h2⟩; rw [h1]; exact ⟨-1, rfl, .inr ⟨rfl, fun j b h => h2 j (List.getElem?_eq_some_iff.1 h).1 b h⟩⟩
  · rintro ⟨v, h1, h2⟩; rw [h1]; exact ⟨v, rfl, h2⟩
  · intro i s hi hI
    obtain ⟨b, hb⟩ := getAt hi
    by_cases c : b.label = l
    · exact .inr ⟨i, by simp [p_dyehouseref12_Find_b1, idx_nat hb, c], .inl ⟨i, rfl, ⟨b, hb, c⟩, hI⟩⟩
    · refine .inl ⟨(), by simp [p_dyehouseref12_Find_b1, idx_nat hb, c], ?_⟩
      intro j hj b' hb'
      by_cases e : j = i
      · subst e; rw [hb] at hb'; cases hb'; exact c
      · exact hI j (by omega) b' hb'
theorem find_ir {f : Fnc} (hn : f.blocks.length ≤ 4294967) {fuel : Nat} (hf : f.blocks.length < fuel) (l : ByteArray) : ∃ r, p_ir_Find fuel f l = some r ∧ isFnd f.blocks l r := by
  unfold p_ir_Find p_slices_IndexFunc_api_Block_api_Block_at_ir_Find_1
  refine Or.elim (loopE_inv (fun x : Int => ∃ i : Nat, x = i ∧ i ≤ f.blocks.length ∧ ∀ j < i, ∀ b, f.blocks[j]? = some b → b.label ≠ l) (fun _ => ∀ (j : Nat) b, f.blocks[j]? = some b → b.label ≠ l) (fun r => isFnd f.blocks l r) (fun x => f.blocks.length - x.toNat) (fun s => p_slices_IndexFunc_api_Block_api_Block_at_ir_Find_1_b1 fuel f.blocks l s) ?_ fuel 0 ⟨0, rfl, by omega, by intro j h; omega⟩ (by simpa using hf)) ?_ ?_
  rotate_left
  · rintro ⟨s, h1, h2⟩; rw [h1]; exact ⟨-1, rfl, .inr ⟨rfl, h2⟩⟩
  · rintro ⟨v, h1, h2⟩; rw [h1]; exact ⟨v, rfl, h2⟩
  · rintro x ⟨i, rfl, hi, hI⟩
    by_cases hlt : i < f.blocks.length
    · obtain ⟨b, hb⟩ := getAt hlt
      have hd : ((i : Int) < (f.blocks.length : Int)) := by omega
      by_cases c : b.label = l
      · exact .inr (.inr ⟨i, by simp [p_slices_IndexFunc_api_Block_api_Block_at_ir_Find_1_b1, p_ir_Find_1, idx_nat hb, c, hlt], .inl ⟨i, rfl, ⟨b, hb, c⟩, hI⟩⟩)
      · refine .inl ⟨((i + 1 : Nat) : Int), by rw [← wrap1 (by omega)]; simp [p_slices_IndexFunc_api_Block_api_Block_at_ir_Find_1_b1, p_ir_Find_1, idx_nat hb, c, hlt], ⟨i + 1, rfl, by omega, ?_⟩, by omega⟩
        intro j hj b' hb'
        by_cases e : j = i
        · subst e; rw [hb] at hb'; cases hb'; exact c
        · exact hI j (by omega) b' hb'
    · refine .inr (.inl ⟨(i : Int), by simp [p_slices_IndexFunc_api_Block_api_Block_at_ir_Find_1_b1, hlt], ?_⟩)
      intro j b hb
      have := (List.getElem?_eq_some_iff.1 hb).1
      exact hI j (by omega) b hb
/-- Is a number in a list? -/
theorem in_ref {l : List Int} (hn : l.length ≤ 4294967296) (fuel : Nat) (v : Int) : p_dyehouseref12_In fuel l v = some (decide (v ∈ l)) := by
  unfold p_dyehouseref12_In
  refine Or.elim (toE_inv (fun i (_ : Unit) => ∀ j < i, l[j]? ≠ some v) (fun r => r = decide (v ∈ l)) (fun i _ => p_dyehouseref12_In_b1 fuel l v i) l.length hn (s := ()) (by intro j h; omega) ?_) ?_ ?_
  rotate_left
  · rintro ⟨s, h1, h2⟩; rw [h1]
    have : v ∉ l := by
      intro h
      obtain ⟨j, hj⟩ := List.getElem?_of_mem h
      exact h2 j (List.getElem?_eq_some_iff.1 hj).1 hj
    simp [bindE, this]
  · rintro ⟨w, h1, h2⟩; rw [h1, h2]; rfl
  · intro i s hi hI
    obtain ⟨b, hb⟩ := getAt hi
    by_cases c : b = v
    · refine .inr ⟨true, by simp [p_dyehouseref12_In_b1, idx_nat hb, c], ?_⟩
      have : v ∈ l := by rw [← c]; exact List.mem_of_getElem? hb
      simp [this]
    · refine .inl ⟨(), by simp [p_dyehouseref12_In_b1, idx_nat hb, c], ?_⟩
      intro j hj hb'
      by_cases e : j = i
      · subst e; rw [hb] at hb'; cases hb'; exact c rfl
      · exact hI j (by omega) hb'
theorem in_sl {l : List Int} (hn : l.length ≤ 4294967) {fuel : Nat} (hf : l.length < fuel) (v : Int) : p_slices_Contains_int_int fuel l v = some (decide (v ∈ l)) := by
  unfold p_slices_Contains_int_int p_slices_Index_int_int
  refine Or.elim (loopE_inv (fun x : Int => ∃ i : Nat, x = i ∧ i ≤ l.length ∧ ∀ j < i, l[j]? ≠ some v) (fun _ => v ∉ l) (fun r : Int => 0 ≤ r ∧ v ∈ l) (fun x => l.length - x.toNat) (fun s => p_slices_Index_int_int_b1 fuel l v s) ?_ fuel 0 ⟨0, rfl, by omega, by intro j h; omega⟩ (by simpa using hf)) ?_ ?_
  rotate_left
  · rintro ⟨s, h1, h2⟩; rw [h1]; simp [bindE, h2]
  · rintro ⟨w, h1, h2⟩; rw [h1]; simp [bindE, h2.1, h2.2]
  · rintro x ⟨i, rfl, hi, hI⟩
    by_cases hlt : i < l.length
    · obtain ⟨b, hb⟩ := getAt hlt
      by_cases c : v = b
      · exact .inr (.inr ⟨i, by simp [p_slices_Index_int_int_b1, idx_nat hb, c, hlt], by omega, by rw [c]; exact List.mem_of_getElem? hb⟩)
      · refine .inl ⟨((i + 1 : Nat) : Int), by rw [← wrap1 (by omega)]; simp [p_slices_Index_int_int_b1, idx_nat hb, c, hlt], ⟨i + 1, rfl, by omega, ?_⟩, by omega⟩
        intro j hj hb'
        by_cases e : j = i
        · subst e; rw [hb] at hb'; cases hb'; exact c rfl
        · exact hI j (by omega) hb'
    · refine .inr (.inl ⟨(i : Int), by simp [p_slices_Index_int_int_b1, hlt], ?_⟩)
      intro h
      obtain ⟨j, hj⟩ := List.getElem?_of_mem h
      have := (List.getElem?_eq_some_iff.1 hj).1
      exact hI j (by omega) hj
end Go.Proofs.Ytodafoajkajnkaa.PL
