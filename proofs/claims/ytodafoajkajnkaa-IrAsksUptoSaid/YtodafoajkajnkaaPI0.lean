/- Plain lemmas for loops over lists. Nothing here speaks of a program. -/
import Derived.Test.YtodafoajkajnkaaPM
set_option linter.unusedVariables false
namespace Go.Proofs.Ytodafoajkajnkaa.PL
open Go
theorem idx_ok {α : Type} {xs : List α} {i : Int} {x : α} (h0 : 0 ≤ i) (h : xs[i.toNat]? = some x) : idx xs i = some x := by
  unfold idx; rw [if_pos h0, h]
theorem idx_nat {α : Type} {xs : List α} {i : Nat} {x : α} (h : xs[i]? = some x) : idx xs (i : Int) = some x := idx_ok (by omega) (by simpa using h)
theorem setI_nat {α : Type} {xs : List α} {i : Nat} {x : α} (h : i < xs.length) : setI xs (i : Int) x = some (xs.set i x) := by
  unfold setI; rw [if_pos (by constructor <;> omega)]; simp
theorem app_ok {α : Type} {xs ys : List α} (h : xs.length + ys.length ≤ 4294967296) : app xs ys = some (xs ++ ys) := by
  unfold app; rw [if_pos h]
theorem mk_nat {α : Type} {n : Nat} {z : α} (h : n ≤ 4294967296) : mk (n : Int) z = some (List.replicate n z) := by
  unfold mk; rw [if_pos (by constructor <;> omega)]; simp

theorem forN_inv {σ : Type} (I : Nat → σ → Prop) (f : Int → σ → Option σ) (n : Nat) (step : ∀ i s, i < n → I i s → ∃ s', f (i : Int) s = some s' ∧ I (i + 1) s') :
    ∀ (m i : Nat) (s : σ), i + m = n → I i s → ∃ s', forN m (i : Int) f s = some s' ∧ I n s' := by
  intro m
  induction m with
  | zero => intro i s h hI; exact ⟨s, rfl, by rw [← h]; simpa using hI⟩
  | succ m ih =>
    intro i s h hI
    obtain ⟨s1, h1, h2⟩ := step i s (by omega) hI
    obtain ⟨s2, h3, h4⟩ := ih (i + 1) s1 (by omega) h2
    refine ⟨s2, ?_, h4⟩
    rw [forN, h1]
    exact h3
theorem toN_inv {σ : Type} (I : Nat → σ → Prop) (f : Int → σ → Option σ) (n : Nat) (hn : n ≤ 4294967296) {s : σ} (h0 : I 0 s) (step : ∀ i s, i < n → I i s → ∃ s', f (i : Int) s = some s' ∧ I (i + 1) s') :
    ∃ s', toN 0 (n : Int) f s = some s' ∧ I n s' := by
  unfold toN
  rw [if_pos (by constructor <;> omega)]
  simpa using forN_inv I f n step n 0 s (by omega) h0
theorem forE_inv {σ ρ : Type} (I : Nat → σ → Prop) (R : ρ → Prop) (f : Int → σ → Option (Ex σ ρ)) (n : Nat) (step : ∀ i s, i < n → I i s → (∃ s', f (i : Int) s = some (.n s') ∧ I (i + 1) s') ∨ ∃ v, f (i : Int) s = some (.r v) ∧ R v) :
    ∀ (m i : Nat) (s : σ), i + m = n → I i s → (∃ s', forE m (i : Int) f s = some (.n s') ∧ I n s') ∨ ∃ v, forE m (i : Int) f s = some (.r v) ∧ R v := by
  intro m
  induction m with
  | zero => intro i s h hI; exact .inl ⟨s, rfl, by rw [← h]; simpa using hI⟩
  | succ m ih =>
    intro i s h hI
    rcases step i s (by omega) hI with ⟨s1, h1, h2⟩ | ⟨v, h1, h2⟩
    · rw [forE, h1]
      exact ih (i + 1) s1 (by omega) h2
    · rw [forE, h1]
      exact .inr ⟨v, rfl, h2⟩
theorem toE_inv {σ ρ : Type} (I : Nat → σ → Prop) (R : ρ → Prop) (f : Int → σ → Option (Ex σ ρ)) (n : Nat) (hn : n ≤ 4294967296) {s : σ} (h0 : I 0 s) (step : ∀ i s, i < n → I i s → (∃ s', f (i : Int) s = some (.n s') ∧ I (i + 1) s') ∨ ∃ v, f (i : Int) s = some (.r v) ∧ R v) :
    (∃ s', toE 0 (n : Int) f s = some (.n s') ∧ I n s') ∨ ∃ v, toE 0 (n : Int) f s = some (.r v) ∧ R v := by
  unfold toE
  rw [if_pos (by constructor <;> omega)]
  simpa using forE_inv I R f n step n 0 s (by omega) h0
theorem loopE_inv {σ ρ : Type} (I : σ → Prop) (B : σ → Prop) (R : ρ → Prop) (m : σ → Nat) (f : σ → Option (Ex σ ρ))
    (step : ∀ s, I s → (∃ s', f s = some (.n s') ∧ I s' ∧ m s' < m s) ∨ (∃ s', f s = some (.b s') ∧ B s') ∨ ∃ v, f s = some (.r v) ∧ R v) :
    ∀ (fuel : Nat) (s : σ), I s → m s < fuel → (∃ s', loopE fuel f s = some (.n s') ∧ B s') ∨ ∃ v, loopE fuel f s = some (.r v) ∧ R v := by
  intro fuel
  induction fuel with
  | zero => intro s _ h; omega
  | succ n ih =>
    intro s hI hm
    rcases step s hI with ⟨s1, h1, h2, h3⟩ | ⟨s1, h1, h2⟩ | ⟨v, h1, h2⟩
    · rw [loopE, h1]; exact ih s1 h2 (by omega)
    · rw [loopE, h1]; exact .inl ⟨s1, rfl, h2⟩
    · rw [loopE, h1]; exact .inr ⟨v, rfl, h2⟩
theorem wrap1 {n : Nat} (h : n ≤ 4294967296) : IntKind.i64.wrap ((n : Int) + 1) = ((n + 1 : Nat) : Int) := by
  rw [wrap_in (by omega) (by omega)]; omega
theorem getAt {α : Type} {xs : List α} {i : Nat} (h : i < xs.length) : ∃ x, xs[i]? = some x := ⟨xs[i], by simp [h]⟩
/-- A range loop: what is made of the elements, one by one. -/
theorem loop_fold {α σ ρ : Type} {xs : List α} {f : Int × σ → Option (Ex (Int × σ) ρ)} (g : σ → α → σ) (J : σ → Prop) (hn : xs.length ≤ 4294967296) {s0 : σ} (h0 : J s0)
    (hs : ∀ (i : Nat) (x : α) (s : σ), xs[i]? = some x → s = (xs.take i).foldl g s0 → J s → f ((i : Int), s) = some (.n (((i + 1 : Nat) : Int), g s x)) ∧ J (g s x)) (he : ∀ s, f ((xs.length : Int), s) = some (.b ((xs.length : Int), s))) {fuel : Nat} (hf : xs.length < fuel) :
    loopE fuel f (0, s0) = some (.n ((xs.length : Int), xs.foldl g s0)) := by
  have key : ∀ (m k : Nat) (s : σ), k + m = xs.length → s = (xs.take k).foldl g s0 → J s → ∀ fuel, m < fuel → loopE fuel f ((k : Int), s) = some (.n ((xs.length : Int), xs.foldl g s0)) := by
    intro m
    induction m with
    | zero =>
      intro k s hk h hJ fuel hf
      obtain ⟨n, rfl⟩ : ∃ n, fuel = n + 1 := ⟨fuel - 1, by omega⟩
      have hkn : k = xs.length := by omega
      subst hkn
      rw [loopE, he, h, List.take_length]
      rfl
    | succ m ih =>
      intro k s hk h hJ fuel hf
      obtain ⟨n, rfl⟩ : ∃ n, fuel = n + 1 := ⟨fuel - 1, by omega⟩
      have hlt : k < xs.length := by omega
      have hx : xs[k]? = some xs[k] := by simp [hlt]
      obtain ⟨h1, h2⟩ := hs k xs[k] s hx h hJ
      rw [loopE, h1]
      refine ih (k + 1) _ (by omega) ?_ h2 n (by omega)
      rw [List.take_add_one, hx, Option.toList_some, List.foldl_append, ← h]
      rfl
  simpa using key xs.length 0 s0 (by omega) (by simp) h0 fuel hf
/-- The same where only the counter goes. -/
theorem toN_fold {α σ : Type} {xs : List α} {f : Int → σ → Option σ} (g : σ → α → σ) (J : σ → Prop) (hn : xs.length ≤ 4294967296) {s0 : σ} (h0 : J s0)
    (hs : ∀ (i : Nat) (x : α) (s : σ), xs[i]? = some x → s = (xs.take i).foldl g s0 → J s → f (i : Int) s = some (g s x) ∧ J (g s x)) : toN 0 (xs.length : Int) f s0 = some (xs.foldl g s0) := by
  obtain ⟨s, h1, h2, _⟩ := toN_inv (fun i s => s = (xs.take i).foldl g s0 ∧ J s) f xs.length hn (s := s0) ⟨by simp, h0⟩ (by
    rintro i s hi ⟨h, hJ⟩
    have hx : xs[i]? = some xs[i] := by simp [hi]
    obtain ⟨h1, h2⟩ := hs i xs[i] s hx h hJ
    refine ⟨_, h1, ?_, h2⟩
    rw [List.take_add_one, hx, Option.toList_some, List.foldl_append, ← h]
    rfl)
  rw [h1, h2, List.take_length]
/-- A list that is filled place by place. -/
theorem fill_step {α β : Type} {T : α → β} {xs : List α} {z : β} {i : Nat} {x : α} (hx : xs[i]? = some x) :
    ((xs.take i).map T ++ List.replicate (xs.length - i) z).set i (T x) = (xs.take (i + 1)).map T ++ List.replicate (xs.length - (i + 1)) z := by
  have hi : i < xs.length := (List.getElem?_eq_some_iff.1 hx).1
  obtain ⟨m, hm⟩ : ∃ m, xs.length - i = m + 1 := ⟨xs.length - i - 1, by omega⟩
  have hl : ((xs.take i).map T).length = i := by simp; omega
  rw [List.set_append_right _ _ (by omega), hl, Nat.sub_self, hm, List.replicate_succ, List.set_cons_zero, List.take_add_one, hx, show xs.length - (i + 1) = m by omega]
  simp
theorem loop_fill {α β ρ : Type} {xs : List α} {f : Int × List β → Option (Ex (Int × List β) ρ)} (T : α → β) (z : β) (hn : xs.length ≤ 4294967296)
    (hs : ∀ (i : Nat) (x : α) (s : List β), xs[i]? = some x → i < s.length → f ((i : Int), s) = some (.n (((i + 1 : Nat) : Int), s.set i (T x)))) (he : ∀ s, f ((xs.length : Int), s) = some (.b ((xs.length : Int), s))) {fuel : Nat} (hf : xs.length < fuel) :
    loopE fuel f (0, List.replicate xs.length z) = some (.n ((xs.length : Int), xs.map T)) := by
  have key : ∀ (m k : Nat), k + m = xs.length → ∀ fuel, m < fuel → loopE fuel f ((k : Int), (xs.take k).map T ++ List.replicate (xs.length - k) z) = some (.n ((xs.length : Int), xs.map T)) := by
    intro m
    induction m with
    | zero =>
      intro k hk fuel hf
      obtain ⟨n, rfl⟩ : ∃ n, fuel = n + 1 := ⟨fuel - 1, by omega⟩
      have hkn : k = xs.length := by omega
      subst hkn
      rw [loopE, he]
      simp
    | succ m ih =>
      intro k hk fuel hf
      obtain ⟨n, rfl⟩ : ∃ n, fuel = n + 1 := ⟨fuel - 1, by omega⟩
      have hlt : k < xs.length := by omega
      have hx : xs[k]? = some xs[k] := by simp [hlt]
      have := hs k xs[k] ((xs.take k).map T ++ List.replicate (xs.length - k) z) hx (by simp; omega)
      rw [loopE, this, fill_step hx]
      exact ih (k + 1) (by omega) n (by omega)
  simpa using key xs.length 0 (by omega) fuel hf
end Go.Proofs.Ytodafoajkajnkaa.PL
