/- Plain lemmas for loops over lists. Nothing here speaks of a program. Plain facts about the pure functions: finding a block, is a number in a list, sets of bits. Plain facts about the pure functions: where blocks go on, by the reference and by the graph. Plain facts about the pure functions: what is reached from a block without going through another one, forward and backward. Plain facts about the pure functions: the order of a graph's blocks. Plain facts about the pure functions: the function that is made of a draft. Plain facts about the pure functions: the function that is made of a draft, as a whole. The pure law GraphOrder is true. -/
import Derived.Test.YtodafoajkajnkaaPM
import Derived.Test.YtodafoajkajnkaaOrdP
set_option linter.unusedVariables false
namespace Go.Proofs.Ytodafoajkajnkaa.PL
open Go
theorem idx_ok {α : Type} {xs : List α} {i : Int} {x : α} (h0 : 0 ≤ i) (h : xs[i.toNat]? = some x) : idx xs i = some x := by
  unfold idx; rw [if_pos h0, h]
theorem idx_nat {α : Type} {xs : List α} {i : Nat} {x : α} (h : xs[i]? = some x) : idx xs (i : Int) = some x := idx_ok (by omega) (by simpa using h)
theorem setI_nat {α : Type} {xs : List α} {i : Nat} {x : α} (h : i < xs.length) : setI xs (i : Int) x = some (xs.set i x) := by
  unfold setI; rw [if_pos (by constructor <;> omega)]; simp
theorem app_ok {α : Type} {xs ys : List α} (h : xs.length + ys.length ≤ 4294967296) : app xs ys = some (xs ++ ys) := by
  unfold app; rw [if_pos h]
theorem mk_nat {α : Type} {n : Nat} {z : α} (h : n ≤ 4294967296) : mk (n : Int) z = some (List.replicate n z) := by
  unfold mk; rw [if_pos (by constructor <;> omega)]; simp

theorem forN_inv {σ : Type} (I : Nat → σ → Prop) (f : Int → σ → Option σ) (n : Nat) (step : ∀ i s, i < n → I i s → ∃ s', f (i : Int) s = some s' ∧ I (i + 1) s') :
    ∀ (m i : Nat) (s : σ), i + m = n → I i s → ∃ s', forN m (i : Int) f s = some s' ∧ I n s' := by
  intro m
  induction m with
  | zero => intro i s h hI; exact ⟨s, rfl, by rw [← h]; simpa using hI⟩
  | succ m ih =>
    intro i s h hI
    obtain ⟨s1, h1, h2⟩ := step i s (by omega) hI
    obtain ⟨s2, h3, h4⟩ := ih (i + 1) s1 (by omega) h2
    refine ⟨s2, ?_, h4⟩
    rw [forN, h1]
    exact h3
theorem toN_inv {σ : Type} (I : Nat → σ → Prop) (f : Int → σ → Option σ) (n : Nat) (hn : n ≤ 4294967296) {s : σ} (h0 : I 0 s) (step : ∀ i s, i < n → I i s → ∃ s', f (i : Int) s = some s' ∧ I (i + 1) s') :
    ∃ s', toN 0 (n : Int) f s = some s' ∧ I n s' := by
  unfold toN
  rw [if_pos (by constructor <;> omega)]
  simpa using forN_inv I f n step n 0 s (by omega) h0
theorem forE_inv {σ ρ : Type} (I : Nat → σ → Prop) (R : ρ → Prop) (f : Int → σ → Option (Ex σ ρ)) (n : Nat) (step : ∀ i s, i < n → I i s → (∃ s', f (i : Int) s = some (.n s') ∧ I (i + 1) s') ∨ ∃ v, f (i : Int) s = some (.r v) ∧ R v) :
    ∀ (m i : Nat) (s : σ), i + m = n → I i s → (∃ s', forE m (i : Int) f s = some (.n s') ∧ I n s') ∨ ∃ v, forE m (i : Int) f s = some (.r v) ∧ R v := by
  intro m
  induction m with
  | zero => intro i s h hI; exact .inl ⟨s, rfl, by rw [← h]; simpa using hI⟩
  | succ m ih =>
    intro i s h hI
    rcases step i s (by omega) hI with ⟨s1, h1, h2⟩ | ⟨v, h1, h2⟩
    · rw [forE, h1]
      exact ih (i + 1) s1 (by omega) h2
    · rw [forE, h1]
      exact .inr ⟨v, rfl, h2⟩
theorem toE_inv {σ ρ : Type} (I : Nat → σ → Prop) (R : ρ → Prop) (f : Int → σ → Option (Ex σ ρ)) (n : Nat) (hn : n ≤ 4294967296) {s : σ} (h0 : I 0 s) (step : ∀ i s, i < n → I i s → (∃ s', f (i : Int) s = some (.n s') ∧ I (i + 1) s') ∨ ∃ v, f (i : Int) s = some (.r v) ∧ R v) :
    (∃ s', toE 0 (n : Int) f s = some (.n s') ∧ I n s') ∨ ∃ v, toE 0 (n : Int) f s = some (.r v) ∧ R v := by
  unfold toE
  rw [if_pos (by constructor <;> omega)]
  simpa using forE_inv I R f n step n 0 s (by omega) h0
theorem loopE_inv {σ ρ : Type} (I : σ → Prop) (B : σ → Prop) (R : ρ → Prop) (m : σ → Nat) (f : σ → Option (Ex σ ρ))
    (step : ∀ s, I s → (∃ s', f s = some (.n s') ∧ I s' ∧ m s' < m s) ∨ (∃ s', f s = some (.b s') ∧ B s') ∨ ∃ v, f s = some (.r v) ∧ R v) :
    ∀ (fuel : Nat) (s : σ), I s → m s < fuel → (∃ s', loopE fuel f s = some (.n s') ∧ B s') ∨ ∃ v, loopE fuel f s = some (.r v) ∧ R v := by
  intro fuel
  induction fuel with
  | zero => intro s _ h; omega
  | succ n ih =>
    intro s hI hm
    rcases step s hI with ⟨s1, h1, h2, h3⟩ | ⟨s1, h1, h2⟩ | ⟨v, h1, h2⟩
    · rw [loopE, h1]; exact ih s1 h2 (by omega)
    · rw [loopE, h1]; exact .inl ⟨s1, rfl, h2⟩
    · rw [loopE, h1]; exact .inr ⟨v, rfl, h2⟩
theorem wrap1 {n : Nat} (h : n ≤ 4294967296) : IntKind.i64.wrap ((n : Int) + 1) = ((n + 1 : Nat) : Int) := by
  rw [wrap_in (by omega) (by omega)]; omega
theorem getAt {α : Type} {xs : List α} {i : Nat} (h : i < xs.length) : ∃ x, xs[i]? = some x := ⟨xs[i], by simp [h]⟩
/-- A range loop: what is made of the elements, one by one. -/
theorem loop_fold {α σ ρ : Type} {xs : List α} {f : Int × σ → Option (Ex (Int × σ) ρ)} (g : σ → α → σ) (J : σ → Prop) (hn : xs.length ≤ 4294967296) {s0 : σ} (h0 : J s0)
    (hs : ∀ (i : Nat) (x : α) (s : σ), xs[i]? = some x → s = (xs.take i).foldl g s0 → J s → f ((i : Int), s) = some (.n (((i + 1 : Nat) : Int), g s x)) ∧ J (g s x)) (he : ∀ s, f ((xs.length : Int), s) = some (.b ((xs.length : Int), s))) {fuel : Nat} (hf : xs.length < fuel) :
    loopE fuel f (0, s0) = some (.n ((xs.length : Int), xs.foldl g s0)) := by
  have key : ∀ (m k : Nat) (s : σ), k + m = xs.length → s = (xs.take k).foldl g s0 → J s → ∀ fuel, m < fuel → loopE fuel f ((k : Int), s) = some (.n ((xs.length : Int), xs.foldl g s0)) := by
    intro m
    induction m with
    | zero =>
      intro k s hk h hJ fuel hf
      obtain ⟨n, rfl⟩ : ∃ n, fuel = n + 1 := ⟨fuel - 1, by omega⟩
      have hkn : k = xs.length := by omega
      subst hkn
      rw [loopE, he, h, List.take_length]
      rfl
    | succ m ih =>
      intro k s hk h hJ fuel hf
      obtain ⟨n, rfl⟩ : ∃ n, fuel = n + 1 := ⟨fuel - 1, by omega⟩
      have hlt : k < xs.length := by omega
      have hx : xs[k]? = some xs[k] := by simp [hlt]
      obtain ⟨h1, h2⟩ := hs k xs[k] s hx h hJ
      rw [loopE, h1]
      refine ih (k + 1) _ (by omega) ?_ h2 n (by omega)
      rw [List.take_add_one, hx, Option.toList_some, List.foldl_append, ← h]
      rfl
  simpa using key xs.length 0 s0 (by omega) (by simp) h0 fuel hf
/-- The same where only the counter goes. -/
theorem toN_fold {α σ : Type} {xs : List α} {f : Int → σ → Option σ} (g : σ → α → σ) (J : σ → Prop) (hn : xs.length ≤ 4294967296) {s0 : σ} (h0 : J s0)
    (hs : ∀ (i : Nat) (x : α) (s : σ), xs[i]? = some x → s = (xs.take i).foldl g s0 → J s → f (i : Int) s = some (g s x) ∧ J (g s x)) : toN 0 (xs.length : Int) f s0 = some (xs.foldl g s0) := by
  obtain ⟨s, h1, h2, _⟩ := toN_inv (fun i s => s = (xs.take i).foldl g s0 ∧ J s) f xs.length hn (s := s0) ⟨by simp, h0⟩ (by
    rintro i s hi ⟨h, hJ⟩
    have hx : xs[i]? = some xs[i] := by simp [hi]
    obtain ⟨h1, h2⟩ := hs i xs[i] s hx h hJ
    refine ⟨_, h1, ?_, h2⟩
    rw [List.take_add_one, hx, Option.toList_some, List.foldl_append, ← h]
    rfl)
  rw [h1, h2, List.take_length]
/-- A list that is filled place by place. -/
theorem fill_step {α β : Type} {T : α → β} {xs : List α} {z : β} {i : Nat} {x : α} (hx : xs[i]? = some x) :
    ((xs.take i).map T ++ List.replicate (xs.length - i) z).set i (T x) = (xs.take (i + 1)).map T ++ List.replicate (xs.length - (i + 1)) z := by
  have hi : i < xs.length := (List.getElem?_eq_some_iff.1 hx).1
  obtain ⟨m, hm⟩ : ∃ m, xs.length - i = m + 1 := ⟨xs.length - i - 1, by omega⟩
  have hl : ((xs.take i).map T).length = i := by simp; omega
  rw [List.set_append_right _ _ (by omega), hl, Nat.sub_self, hm, List.replicate_succ, List.set_cons_zero, List.take_add_one, hx, show xs.length - (i + 1) = m by omega]
  simp
theorem loop_fill {α β ρ : Type} {xs : List α} {f : Int × List β → Option (Ex (Int × List β) ρ)} (T : α → β) (z : β) (hn : xs.length ≤ 4294967296)
    (hs : ∀ (i : Nat) (x : α) (s : List β), xs[i]? = some x → i < s.length → f ((i : Int), s) = some (.n (((i + 1 : Nat) : Int), s.set i (T x)))) (he : ∀ s, f ((xs.length : Int), s) = some (.b ((xs.length : Int), s))) {fuel : Nat} (hf : xs.length < fuel) :
    loopE fuel f (0, List.replicate xs.length z) = some (.n ((xs.length : Int), xs.map T)) := by
  have key : ∀ (m k : Nat), k + m = xs.length → ∀ fuel, m < fuel → loopE fuel f ((k : Int), (xs.take k).map T ++ List.replicate (xs.length - k) z) = some (.n ((xs.length : Int), xs.map T)) := by
    intro m
    induction m with
    | zero =>
      intro k hk fuel hf
      obtain ⟨n, rfl⟩ : ∃ n, fuel = n + 1 := ⟨fuel - 1, by omega⟩
      have hkn : k = xs.length := by omega
      subst hkn
      rw [loopE, he]
      simp
    | succ m ih =>
      intro k hk fuel hf
      obtain ⟨n, rfl⟩ : ∃ n, fuel = n + 1 := ⟨fuel - 1, by omega⟩
      have hlt : k < xs.length := by omega
      have hx : xs[k]? = some xs[k] := by simp [hlt]
      have := hs k xs[k] ((xs.take k).map T ++ List.replicate (xs.length - k) z) hx (by simp; omega)
      rw [loopE, this, fill_step hx]
      exact ih (k + 1) (by omega) n (by omega)
  simpa using key xs.length 0 (by omega) fuel hf
end Go.Proofs.Ytodafoajkajnkaa.PL
set_option linter.unusedVariables false
set_option linter.unusedSimpArgs false
namespace Go.Proofs.Ytodafoajkajnkaa.PL
open Go

/-- The first block of a label, or -1. -/
def isFnd (bs : List Bl) (l : ByteArray) (r : Int) : Prop :=
  (∃ k : Nat, r = k ∧ (∃ b, bs[k]? = some b ∧ b.label = l) ∧ ∀ j < k, ∀ b, bs[j]? = some b → b.label ≠ l) ∨ (r = -1 ∧ ∀ (j : Nat) b, bs[j]? = some b → b.label ≠ l)
theorem isFnd_same {bs : List Bl} {l : ByteArray} {r s : Int} (h : isFnd bs l r) (k : isFnd bs l s) : r = s := by
  rcases h with ⟨a, rfl, ⟨b, h1, h2⟩, h3⟩ | ⟨rfl, h3⟩ <;> rcases k with ⟨c, rfl, ⟨d, k1, k2⟩, k3⟩ | ⟨rfl, k3⟩
  · rcases Nat.lt_trichotomy a c with h | h | h
    · exact absurd h2 (k3 a h b h1)
    · rw [h]
    · exact absurd k2 (h3 c h d k1)
  · exact absurd h2 (k3 a b h1)
  · exact absurd k2 (h3 c d k1)
  · rfl
theorem isFnd_lt {bs : List Bl} {l : ByteArray} {r : Int} (h : isFnd bs l r) : -1 ≤ r ∧ r < (bs.length : Int) := by
  rcases h with ⟨a, rfl, ⟨b, h1, h2⟩, h3⟩ | ⟨rfl, h3⟩
  · have := (List.getElem?_eq_some_iff.1 h1).1; omega
  · omega
theorem find_ref {f : Fnc} (hn : f.blocks.length ≤ 4294967296) (fuel : Nat) (l : ByteArray) : ∃ r, p_dyehouseref12_Find fuel f l = some r ∧ isFnd f.blocks l r := by
  unfold p_dyehouseref12_Find
  refine Or.elim (toE_inv (fun i (_ : Unit) => ∀ j < i, ∀ b, f.blocks[j]? = some b → b.label ≠ l) (fun r => isFnd f.blocks l r) (fun i _ => p_dyehouseref12_Find_b1 fuel f l i) f.blocks.length hn (s := ()) (by intro j h; omega) ?_) ?_ ?_
  rotate_left
  · rintro ⟨s, h1, h2⟩; rw [h1]; exact ⟨-1, rfl, .inr ⟨rfl, fun j b h => h2 j (List.getElem?_eq_some_iff.1 h).1 b h⟩⟩
  · rintro ⟨v, h1, h2⟩; rw [h1]; exact ⟨v, rfl, h2⟩
  · intro i s hi hI
    obtain ⟨b, hb⟩ := getAt hi
    by_cases c : b.label = l
    · exact .inr ⟨i, by simp [p_dyehouseref12_Find_b1, idx_nat hb, c], .inl ⟨i, rfl, ⟨b, hb, c⟩, hI⟩⟩
    · refine .inl ⟨(), by simp [p_dyehouseref12_Find_b1, idx_nat hb, c], ?_⟩
      intro j hj b' hb'
      by_cases e : j = i
      · subst e; rw [hb] at hb'; cases hb'; exact c
      · exact hI j (by omega) b' hb'
theorem find_ir {f : Fnc} (hn : f.blocks.length ≤ 4294967) {fuel : Nat} (hf : f.blocks.length < fuel) (l : ByteArray) : ∃ r, p_ir_Find fuel f l = some r ∧ isFnd f.blocks l r := by
  unfold p_ir_Find p_slices_IndexFunc_api_Block_api_Block_at_ir_Find_1
  refine Or.elim (loopE_inv (fun x : Int => ∃ i : Nat, x = i ∧ i ≤ f.blocks.length ∧ ∀ j < i, ∀ b, f.blocks[j]? = some b → b.label ≠ l) (fun _ => ∀ (j : Nat) b, f.blocks[j]? = some b → b.label ≠ l) (fun r => isFnd f.blocks l r) (fun x => f.blocks.length - x.toNat) (fun s => p_slices_IndexFunc_api_Block_api_Block_at_ir_Find_1_b1 fuel f.blocks l s) ?_ fuel 0 ⟨0, rfl, by omega, by intro j h; omega⟩ (by simpa using hf)) ?_ ?_
  rotate_left
  · rintro ⟨s, h1, h2⟩; rw [h1]; exact ⟨-1, rfl, .inr ⟨rfl, h2⟩⟩
  · rintro ⟨v, h1, h2⟩; rw [h1]; exact ⟨v, rfl, h2⟩
  · rintro x ⟨i, rfl, hi, hI⟩
    by_cases hlt : i < f.blocks.length
    · obtain ⟨b, hb⟩ := getAt hlt
      have hd : ((i : Int) < (f.blocks.length : Int)) := by omega
      by_cases c : b.label = l
      · exact .inr (.inr ⟨i, by simp [p_slices_IndexFunc_api_Block_api_Block_at_ir_Find_1_b1, p_ir_Find_1, idx_nat hb, c, hlt], .inl ⟨i, rfl, ⟨b, hb, c⟩, hI⟩⟩)
      · refine .inl ⟨((i + 1 : Nat) : Int), by rw [← wrap1 (by omega)]; simp [p_slices_IndexFunc_api_Block_api_Block_at_ir_Find_1_b1, p_ir_Find_1, idx_nat hb, c, hlt], ⟨i + 1, rfl, by omega, ?_⟩, by omega⟩
        intro j hj b' hb'
        by_cases e : j = i
        · subst e; rw [hb] at hb'; cases hb'; exact c
        · exact hI j (by omega) b' hb'
    · refine .inr (.inl ⟨(i : Int), by simp [p_slices_IndexFunc_api_Block_api_Block_at_ir_Find_1_b1, hlt], ?_⟩)
      intro j b hb
      have := (List.getElem?_eq_some_iff.1 hb).1
      exact hI j (by omega) b hb
/-- Is a number in a list? -/
theorem in_ref {l : List Int} (hn : l.length ≤ 4294967296) (fuel : Nat) (v : Int) : p_dyehouseref12_In fuel l v = some (decide (v ∈ l)) := by
  unfold p_dyehouseref12_In
  refine Or.elim (toE_inv (fun i (_ : Unit) => ∀ j < i, l[j]? ≠ some v) (fun r => r = decide (v ∈ l)) (fun i _ => p_dyehouseref12_In_b1 fuel l v i) l.length hn (s := ()) (by intro j h; omega) ?_) ?_ ?_
  rotate_left
  · rintro ⟨s, h1, h2⟩; rw [h1]
    have : v ∉ l := by
      intro h
      obtain ⟨j, hj⟩ := List.getElem?_of_mem h
      exact h2 j (List.getElem?_eq_some_iff.1 hj).1 hj
    simp [bindE, this]
  · rintro ⟨w, h1, h2⟩; rw [h1, h2]; rfl
  · intro i s hi hI
    obtain ⟨b, hb⟩ := getAt hi
    by_cases c : b = v
    · refine .inr ⟨true, by simp [p_dyehouseref12_In_b1, idx_nat hb, c], ?_⟩
      have : v ∈ l := by rw [← c]; exact List.mem_of_getElem? hb
      simp [this]
    · refine .inl ⟨(), by simp [p_dyehouseref12_In_b1, idx_nat hb, c], ?_⟩
      intro j hj hb'
      by_cases e : j = i
      · subst e; rw [hb] at hb'; cases hb'; exact c rfl
      · exact hI j (by omega) hb'
theorem in_sl {l : List Int} (hn : l.length ≤ 4294967) {fuel : Nat} (hf : l.length < fuel) (v : Int) : p_slices_Contains_int_int fuel l v = some (decide (v ∈ l)) := by
  unfold p_slices_Contains_int_int p_slices_Index_int_int
  refine Or.elim (loopE_inv (fun x : Int => ∃ i : Nat, x = i ∧ i ≤ l.length ∧ ∀ j < i, l[j]? ≠ some v) (fun _ => v ∉ l) (fun r : Int => 0 ≤ r ∧ v ∈ l) (fun x => l.length - x.toNat) (fun s => p_slices_Index_int_int_b1 fuel l v s) ?_ fuel 0 ⟨0, rfl, by omega, by intro j h; omega⟩ (by simpa using hf)) ?_ ?_
  rotate_left
  · rintro ⟨s, h1, h2⟩; rw [h1]; simp [bindE, h2]
  · rintro ⟨w, h1, h2⟩; rw [h1]; simp [bindE, h2.1, h2.2]
  · rintro x ⟨i, rfl, hi, hI⟩
    by_cases hlt : i < l.length
    · obtain ⟨b, hb⟩ := getAt hlt
      by_cases c : v = b
      · exact .inr (.inr ⟨i, by simp [p_slices_Index_int_int_b1, idx_nat hb, c, hlt], by omega, by rw [c]; exact List.mem_of_getElem? hb⟩)
      · refine .inl ⟨((i + 1 : Nat) : Int), by rw [← wrap1 (by omega)]; simp [p_slices_Index_int_int_b1, idx_nat hb, c, hlt], ⟨i + 1, rfl, by omega, ?_⟩, by omega⟩
        intro j hj hb'
        by_cases e : j = i
        · subst e; rw [hb] at hb'; cases hb'; exact c rfl
        · exact hI j (by omega) hb'
    · refine .inr (.inl ⟨(i : Int), by simp [p_slices_Index_int_int_b1, hlt], ?_⟩)
      intro h
      obtain ⟨j, hj⟩ := List.getElem?_of_mem h
      have := (List.getElem?_eq_some_iff.1 hj).1
      exact hI j (by omega) hj
theorem wrapu {x : Nat} (h : x < 18446744073709551616) : IntKind.u64.wrap (x : Int) = (x : Int) := by
  simp [IntKind.wrap, IntKind.bits, IntKind.signed, IntKind.min, IntKind.max]
  omega
theorem ofIntNat {a : Nat} (ha : a < 18446744073709551616) : (BitVec.ofInt 64 (a : Int)).toNat = a := by
  rw [BitVec.toNat_ofInt]; omega
theorem band_nat {a b : Nat} (ha : a < 18446744073709551616) (hb : b < 18446744073709551616) : band .u64 (a : Int) (b : Int) = ((a &&& b : Nat) : Int) := by
  show IntKind.u64.wrap (((BitVec.ofInt 64 (a : Int) &&& BitVec.ofInt 64 (b : Int)).toNat : Nat) : Int) = _
  rw [BitVec.toNat_and, ofIntNat ha, ofIntNat hb, wrapu (Nat.and_lt_two_pow (n := 64) a hb)]
theorem bor_nat {a b : Nat} (ha : a < 18446744073709551616) (hb : b < 18446744073709551616) : bor .u64 (a : Int) (b : Int) = ((a ||| b : Nat) : Int) := by
  show IntKind.u64.wrap (((BitVec.ofInt 64 (a : Int) ||| BitVec.ofInt 64 (b : Int)).toNat : Nat) : Int) = _
  rw [BitVec.toNat_or, ofIntNat ha, ofIntNat hb, wrapu (Nat.or_lt_two_pow (n := 64) ha hb)]
theorem shr_nat {a k : Nat} (hk : k < 64) : shr .u64 (a : Int) (k : Int) = some ((a / 2 ^ k : Nat) : Int) := by
  unfold shr
  rw [if_neg (by omega)]
  have : min ((k : Int).toNat) IntKind.u64.bits = k := by show min ((k : Int).toNat) 64 = k; omega
  rw [this, Int.fdiv_eq_ediv_of_nonneg _ (by exact Int.le_of_lt (Int.pow_pos (by decide)))]
  congr 1
theorem shl_one {k : Nat} (hk : k < 64) : shl .u64 1 (k : Int) = some ((2 ^ k : Nat) : Int) := by
  unfold shl
  rw [if_neg (by omega)]
  have : min ((k : Int).toNat) IntKind.u64.bits = k := by show min ((k : Int).toNat) 64 = k; omega
  have h2 : 2 ^ k < 18446744073709551616 := Nat.pow_lt_pow_right (n := 64) (by decide) hk
  rw [this]
  congr 1
  rw [← wrapu h2]
  simp
theorem tdiv_nat (i : Nat) : Int.tdiv (i : Int) 64 = ((i / 64 : Nat) : Int) := by
  rw [Int.tdiv_eq_ediv_of_nonneg (by omega)]; omega
theorem tmod_nat (i : Nat) : Int.tmod (i : Int) 64 = ((i % 64 : Nat) : Int) := by
  rw [Int.tmod_eq_emod_of_nonneg (by omega)]; omega

/-- A set of numbers below n. -/
def bV (s : bits_Set) (n : Nat) : Prop := s.n = (n : Int) ∧ s.words.length = (n + 63) / 64 ∧ ∀ w ∈ s.words, 0 ≤ w ∧ w < 18446744073709551616
def bH (s : bits_Set) (j : Nat) : Bool := match s.words[j / 64]? with | some w => w.toNat.testBit (j % 64) | none => false

theorem has_ok {s : bits_Set} {n : Nat} (hV : bV s n) (hn : n ≤ 4294967296) (fuel : Nat) (i : Int) : p_bits_Set_Has fuel s i = some (decide (0 ≤ i ∧ i < (n : Int)) && bH s i.toNat) := by
  unfold p_bits_Set_Has p_bits_Set_in
  rw [hV.1]
  by_cases h : 0 ≤ i ∧ i < (n : Int)
  · obtain ⟨k, rfl⟩ := Int.eq_ofNat_of_zero_le h.1
    have hk : k < n := by omega
    obtain ⟨w, hw⟩ := getAt (xs := s.words) (i := k / 64) (by rw [hV.2.1]; omega)
    obtain ⟨hw0, hw1⟩ := hV.2.2 w (List.mem_of_getElem? hw)
    obtain ⟨a, rfl⟩ := Int.eq_ofNat_of_zero_le hw0
    have ha : a < 18446744073709551616 := by omega
    have hd : a / 2 ^ (k % 64) < 18446744073709551616 := Nat.lt_of_le_of_lt (Nat.div_le_self _ _) ha
    have hw' : idx s.words (IntKind.wrap .i64 (Int.tdiv (k : Int) 64)) = some (a : Int) := by
      rw [tdiv_nat, wrap_in (by omega) (by omega)]; exact idx_nat hw
    have hb := band_nat hd (b := 1) (by decide)
    have hr : decide (band .u64 ((a / 2 ^ (k % 64) : Nat) : Int) 1 = 1) = a.testBit (k % 64) := by
      rw [show (1 : Int) = ((1 : Nat) : Int) from rfl, hb, Nat.and_one_is_mod, Nat.testBit_eq_decide_div_mod_eq]
      congr 1
      simp only [eq_iff_iff]
      omega
    have hs := shr_nat (a := a) (k := k % 64) (by omega)
    rw [← tmod_nat] at hs
    simp only [Option.bind_some, h.1, h.2, decide_true, Bool.and_true, if_true, Bool.true_and, and_self]
    rw [hw']
    simp only [Option.bind_some]
    rw [hs]
    simp only [Option.bind_some, hr]
    simp [bH, hw]
  · have : (decide (0 ≤ i) && decide (i < (n : Int))) = false := by
      simp; omega
    simp only [this, Option.bind_some, h, decide_false, Bool.false_and]
    simp
theorem add_ok {s : bits_Set} {n : Nat} (hV : bV s n) (hn : n ≤ 4294967296) (fuel : Nat) (i : Int) :
    (p_bits_Set_Add fuel s i = some (false, s) ∧ ∀ k : Nat, i = k → k < n → bH s k = true) ∨
    ∃ (k : Nat) (s' : bits_Set), i = k ∧ k < n ∧ bH s k = false ∧ p_bits_Set_Add fuel s i = some (true, s') ∧ bV s' n ∧ ∀ j, bH s' j = (bH s j || decide (j = k)) := by
  unfold p_bits_Set_Add
  rw [has_ok hV hn]
  have hin : p_bits_Set_in fuel s i = some (decide (0 ≤ i ∧ i < (n : Int))) := by unfold p_bits_Set_in; rw [hV.1]; simp
  rw [hin]
  by_cases h : 0 ≤ i ∧ i < (n : Int)
  · obtain ⟨k, rfl⟩ := Int.eq_ofNat_of_zero_le h.1
    have hk : k < n := by omega
    obtain ⟨w, hw⟩ := getAt (xs := s.words) (i := k / 64) (by rw [hV.2.1]; omega)
    obtain ⟨hw0, hw1⟩ := hV.2.2 w (List.mem_of_getElem? hw)
    obtain ⟨a, rfl⟩ := Int.eq_ofNat_of_zero_le hw0
    have ha : a < 18446744073709551616 := by omega
    have hw' : idx s.words (IntKind.wrap .i64 (Int.tdiv (k : Int) 64)) = some (a : Int) := by
      rw [tdiv_nat, wrap_in (by omega) (by omega)]; exact idx_nat hw
    by_cases hb : bH s k = true
    · left
      refine ⟨by simp [h, hb], ?_⟩
      intro k' e _; have : k = k' := by omega
      subst this; exact hb
    · right
      have hb' : bH s k = false := by simpa using hb
      have h2 : 2 ^ (k % 64) < 18446744073709551616 := Nat.pow_lt_pow_right (n := 64) (by decide) (by omega)
      have hs := shl_one (k := k % 64) (by omega)
      rw [← tmod_nat] at hs
      have hset : setI s.words (IntKind.wrap .i64 (Int.tdiv (k : Int) 64)) (bor .u64 (a : Int) ((2 ^ (k % 64) : Nat) : Int)) = some (s.words.set (k / 64) ((a ||| 2 ^ (k % 64) : Nat) : Int)) := by
        rw [tdiv_nat, wrap_in (by omega) (by omega), bor_nat ha h2]; exact setI_nat (by rw [hV.2.1]; omega)
      refine ⟨k, ⟨s.n, s.words.set (k / 64) ((a ||| 2 ^ (k % 64) : Nat) : Int)⟩, rfl, hk, hb', ?_, ⟨hV.1, by simp [hV.2.1], ?_⟩, ?_⟩
      · have hkn : ((k : Int) < (n : Int)) := h.2
        have c0 : (decide (0 ≤ (k : Int) ∧ (k : Int) < (n : Int))) = true := by simpa using h
        have c1 : (true && bH s ((k : Int)).toNat) = false := by simpa using hb'
        simp only [Option.bind_some, c0, c1, Bool.not_true, Bool.false_eq_true, if_false]
        rw [hw']
        simp only [Option.bind_some]
        rw [hs]
        simp only [Option.bind_some]
        rw [hset]
        rfl
      · intro w hwm
        rcases List.mem_or_eq_of_mem_set hwm with hwm | rfl
        · exact hV.2.2 w hwm
        · have := Nat.or_lt_two_pow (n := 64) ha h2
          omega
      · intro j
        unfold bH
        by_cases e : j / 64 = k / 64
        · have hl : k / 64 < s.words.length := by rw [hV.2.1]; omega
          simp only [e, List.getElem?_set_self hl, hw, Int.toNat_natCast, Nat.testBit_or, Nat.testBit_two_pow]
          congr 1
          simp only [decide_eq_decide]
          omega
        · have : j ≠ k := by intro c; subst c; exact e rfl
          rw [List.getElem?_set_ne (by omega)]
          simp [this]
  · left
    refine ⟨by simp [h], ?_⟩
    intro k e hk; omega
theorem new_ok {n : Nat} (hn : n ≤ 4294967296) (fuel : Nat) : ∃ s, p_bits_New fuel (n : Int) = some s ∧ bV s n ∧ ∀ j, bH s j = false := by
  have h0 : (if 0 > (n : Int) then 0 else (n : Int)) = n := by rw [if_neg (by omega)]
  refine ⟨⟨n, List.replicate ((n + 63) / 64) 0⟩, ?_, ⟨rfl, by simp, ?_⟩, ?_⟩
  · unfold p_bits_New
    rw [h0, wrap_in (x := (n : Int) + 64) (by omega) (by omega), wrap_in (x := (n : Int) + 64 - 1) (by omega) (by omega), show (n : Int) + 64 - 1 = ((n + 63 : Nat) : Int) by omega, tdiv_nat, wrap_in (by omega) (by omega), mk_nat (by omega)]
    rfl
  · intro w hw
    have := (List.mem_replicate.1 hw).2
    subst this; omega
  · intro j
    unfold bH
    simp only [List.getElem?_replicate]
    split
    · rename_i h
      split at h
      · cases h; simp
      · cases h
    · rfl
end Go.Proofs.Ytodafoajkajnkaa.PL
set_option linter.unusedVariables false
set_option linter.unusedSimpArgs false
namespace Go.Proofs.Ytodafoajkajnkaa.PL
open Go

def fOk (f : Fnc) : Prop := f.blocks.length ≤ 1048576 ∧ ∀ b ∈ f.blocks, b.code.length ≤ 1048576 ∧ ∀ i ∈ b.code, i.labels.length ≤ 1048576
def fnd (f : Fnc) (l : ByteArray) : Int := (p_dyehouseref12_Find 0 f l).getD (-1)
theorem fnd_is {f : Fnc} (hn : fOk f) (l : ByteArray) : isFnd f.blocks l (fnd f l) := by
  obtain ⟨r, h1, h2⟩ := find_ref (f := f) (by have := hn.1; omega) 0 l
  unfold fnd; rw [h1]; exact h2
theorem fnd_ref {f : Fnc} (hn : fOk f) (fuel : Nat) (l : ByteArray) : p_dyehouseref12_Find fuel f l = some (fnd f l) := by
  obtain ⟨r, h1, h2⟩ := find_ref (f := f) (by have := hn.1; omega) fuel l
  rw [h1, isFnd_same h2 (fnd_is hn l)]
theorem fnd_ir {f : Fnc} (hn : fOk f) {fuel : Nat} (hf : 1048576 < fuel) (l : ByteArray) : p_ir_Find fuel f l = some (fnd f l) := by
  obtain ⟨r, h1, h2⟩ := find_ir (f := f) (by have := hn.1; omega) (fuel := fuel) (by have := hn.1; omega) l
  rw [h1, isFnd_same h2 (fnd_is hn l)]
theorem fnd_lt {f : Fnc} (hn : fOk f) (l : ByteArray) : -1 ≤ fnd f l ∧ fnd f l < (f.blocks.length : Int) := isFnd_lt (fnd_is hn l)
def addT (acc : List Int) (r : Int) : List Int := if 0 ≤ r ∧ r ∉ acc then acc ++ [r] else acc
theorem addT_len (acc : List Int) (r : Int) : (addT acc r).length ≤ acc.length + 1 := by
  unfold addT; split <;> simp
def tgl (f : Fnc) (ls : List ByteArray) : List Int := ls.foldl (fun a l => addT a (fnd f l)) []
theorem tgl_next (f : Fnc) {ls : List ByteArray} {i : Nat} {l : ByteArray} (h : ls[i]? = some l) : tgl f (ls.take (i + 1)) = addT (tgl f (ls.take i)) (fnd f l) := by
  unfold tgl
  rw [List.take_add_one, h]
  simp
theorem foldT_len (f : Fnc) (ls : List ByteArray) : ∀ acc : List Int, (ls.foldl (fun a l => addT a (fnd f l)) acc).length ≤ acc.length + ls.length := by
  induction ls with
  | nil => intro acc; simp
  | cons l ls ih =>
    intro acc
    have h1 := ih (addT acc (fnd f l))
    have h2 := addT_len acc (fnd f l)
    simp only [List.foldl_cons, List.length_cons]
    omega
theorem tgl_len (f : Fnc) (ls : List ByteArray) : (tgl f ls).length ≤ ls.length := by simpa [tgl] using foldT_len f ls []
theorem foldT_in {f : Fnc} (hn : fOk f) (ls : List ByteArray) : ∀ acc : List Int, (∀ r ∈ acc, 0 ≤ r ∧ r < (f.blocks.length : Int)) → ∀ r ∈ ls.foldl (fun a l => addT a (fnd f l)) acc, 0 ≤ r ∧ r < (f.blocks.length : Int) := by
  induction ls with
  | nil => intro acc h; exact h
  | cons l ls ih =>
    intro acc h
    refine ih _ ?_
    intro r hr
    change r ∈ addT acc (fnd f l) at hr
    unfold addT at hr
    split at hr
    · rename_i c
      rcases List.mem_append.1 hr with hr | hr
      · exact h r hr
      · have := List.mem_singleton.1 hr
        subst this
        exact ⟨c.1, (fnd_lt hn l).2⟩
    · exact h r hr
theorem tgl_in {f : Fnc} (hn : fOk f) (ls : List ByteArray) : ∀ r ∈ tgl f ls, 0 ≤ r ∧ r < (f.blocks.length : Int) := foldT_in hn ls [] (by simp)
def lastB (b : Bl) : Option Ins := match b.code[b.code.length - 1]? with | some i => if 20 ≤ i.op ∧ i.op ≤ 23 then some i else none | none => none
def tg (f : Fnc) (b : Bl) : List Int := match lastB b with | some i => tgl f i.labels | none => []
theorem lastB_len {f : Fnc} (hn : fOk f) {b : Bl} (hb : b ∈ f.blocks) {i : Ins} (h : lastB b = some i) : i.labels.length ≤ 1048576 := by
  unfold lastB at h
  split at h
  · rename_i j hj
    split at h
    · cases h; exact (hn.2 b hb).2 _ (List.mem_of_getElem? hj)
    · cases h
  · cases h
theorem tg_in {f : Fnc} (hn : fOk f) (b : Bl) : ∀ r ∈ tg f b, 0 ≤ r ∧ r < (f.blocks.length : Int) := by
  unfold tg
  split
  · exact tgl_in hn _
  · simp
theorem tg_len {f : Fnc} (hn : fOk f) {b : Bl} (hb : b ∈ f.blocks) : (tg f b).length ≤ 1048576 := by
  unfold tg
  split
  · rename_i i h
    exact Nat.le_trans (tgl_len _ _) (lastB_len hn hb h)
  · simp
theorem last_idx {b : Bl} (h : b.code.length ≤ 1048576) (h0 : b.code.length ≠ 0) : ∃ i, b.code[b.code.length - 1]? = some i ∧ idx b.code (IntKind.wrap .i64 ((b.code.length : Int) - 1)) = some i := by
  obtain ⟨i, hi⟩ := getAt (xs := b.code) (i := b.code.length - 1) (by omega)
  refine ⟨i, hi, ?_⟩
  rw [wrap_in (by omega) (by omega), show (b.code.length : Int) - 1 = ((b.code.length - 1 : Nat) : Int) by omega]
  exact idx_nat hi

theorem succ_b2 {f : Fnc} (hn : fOk f) (fuel : Nat) {x : Ins} {y : Nat} {l : ByteArray} (hl : x.labels[y]? = some l) {acc : List Int} (ha : acc.length ≤ 1048576) :
    p_dyehouseref19_Succ_b2 fuel f x y acc = some (addT acc (fnd f l)) := by
  unfold p_dyehouseref19_Succ_b2
  simp only [idx_nat hl, Option.bind_some, fnd_ref hn, in_ref (l := acc) (by omega), addT]
  by_cases c : 0 ≤ fnd f l
  · by_cases d : fnd f l ∈ acc
    · simp [c, d]
    · simp only [c, d, decide_true, if_true, decide_false, Bool.not_false, Option.bind_some, true_and, not_false_iff]
      rw [app_ok (by simp; omega)]
      rfl
  · simp [c]
theorem succ_b1 {f : Fnc} (hn : fOk f) (fuel : Nat) {i : Nat} {b : Bl} (hb : f.blocks[i]? = some b) {out : List (List Int)} (ho : out.length ≤ 1048576) :
    p_dyehouseref19_Succ_b1 fuel f i out = some (out ++ [tg f b]) := by
  have hm : b ∈ f.blocks := List.mem_of_getElem? hb
  have hc := (hn.2 b hm).1
  unfold p_dyehouseref19_Succ_b1
  simp only [idx_nat hb, Option.bind_some]
  by_cases h0 : b.code.length = 0
  · have : lastB b = none := by
      unfold lastB
      have : b.code = [] := List.eq_nil_of_length_eq_zero h0
      simp [this]
    have hp : ¬ (0 < (b.code.length : Int)) := by omega
    simp only [hp, decide_false, Bool.false_eq_true, if_false, Option.bind_some, tg, this]
    rw [app_ok (by simp; omega)]
    rfl
  · obtain ⟨x, hx, hx'⟩ := last_idx hc h0
    have hp : (0 < (b.code.length : Int)) := by omega
    simp only [hp, decide_true, if_true, hx', Option.bind_some]
    by_cases c : 20 ≤ x.op ∧ x.op ≤ 23
    · have hl : lastB b = some x := by unfold lastB; rw [hx]; simp [c]
      have hll := lastB_len hn hm hl
      obtain ⟨s, h1, h2⟩ := toN_inv (fun y (acc : List Int) => acc = tgl f (x.labels.take y)) (fun i s => p_dyehouseref19_Succ_b2 fuel f x i s) x.labels.length (by omega) (s := []) rfl (by
        rintro y acc hy rfl
        obtain ⟨l, hl⟩ := getAt hy
        have := tgl_len f (x.labels.take y)
        simp at this
        exact ⟨_, succ_b2 hn fuel hl (by omega), (tgl_next f hl).symm⟩)
      rw [List.take_length] at h2
      simp only [c.1, c.2, decide_true, if_true, Option.bind_some, h1, tg, hl, h2]
      rw [app_ok (by simp; omega)]
      rfl
    · have hl : lastB b = none := by unfold lastB; rw [hx]; simp [c]
      simp only [tg, hl]
      by_cases c1 : 20 ≤ x.op
      · have c2 : ¬ x.op ≤ 23 := fun d => c ⟨c1, d⟩
        simp only [c1, c2, decide_true, decide_false, if_true, Option.bind_some, Bool.false_eq_true, if_false]
        rw [app_ok (by simp; omega)]
        rfl
      · simp only [c1, decide_false, if_true, Option.bind_some, Bool.false_eq_true, if_false]
        rw [app_ok (by simp; omega)]
        rfl
theorem succ_ok {f : Fnc} (hn : fOk f) (fuel : Nat) : p_dyehouseref19_Succ fuel f = some (f.blocks.map (tg f)) := by
  unfold p_dyehouseref19_Succ
  have hn1 := hn.1
  obtain ⟨s, h1, h2⟩ := toN_inv (fun y (out : List (List Int)) => out = (f.blocks.take y).map (tg f)) (fun i s => p_dyehouseref19_Succ_b1 fuel f i s) f.blocks.length (by omega) (s := []) rfl (by
    rintro y out hy rfl
    obtain ⟨b, hb⟩ := getAt hy
    refine ⟨_, succ_b1 hn fuel hb (by simp; omega), ?_⟩
    rw [List.take_add_one, hb]
    simp)
  rw [h1, h2, List.take_length]
  rfl

/-- The targets of a block by its number; the blocks below x that go on with j. -/
def TT (f : Fnc) (j : Nat) : List Int := match f.blocks[j]? with | some b => tg f b | none => []
def PP (f : Fnc) (x j : Nat) : List Int := ((List.range x).filter (fun k => decide ((j : Int) ∈ TT f k))).map (fun (k : Nat) => (k : Int))
theorem PP_len (f : Fnc) (x j : Nat) : (PP f x j).length ≤ x := by
  unfold PP
  rw [List.length_map]
  exact Nat.le_trans (List.length_filter_le _ _) (by simp)
theorem PP_next (f : Fnc) (x j : Nat) : PP f (x + 1) j = PP f x j ++ if (j : Int) ∈ TT f x then [(x : Int)] else [] := by
  unfold PP
  rw [List.range_succ, List.filter_append, List.map_append]
  congr 1
  by_cases c : (j : Int) ∈ TT f x <;> simp [c]
theorem PP_mem {f : Fnc} {x j : Nat} {k : Int} : k ∈ PP f x j ↔ ∃ i : Nat, k = i ∧ i < x ∧ (j : Int) ∈ TT f i := by
  unfold PP
  constructor
  · intro h
    obtain ⟨i, hi, rfl⟩ := List.mem_map.1 h
    obtain ⟨h1, h2⟩ := List.mem_filter.1 hi
    exact ⟨i, rfl, List.mem_range.1 h1, of_decide_eq_true h2⟩
  · rintro ⟨i, rfl, h1, h2⟩
    exact List.mem_map.2 ⟨i, List.mem_filter.2 ⟨List.mem_range.2 h1, decide_eq_true h2⟩, rfl⟩

structure NI (f : Fnc) (x : Nat) (acc : List Int) (c9 c10 : List (List Int)) : Prop where
  l9 : c9.length = f.blocks.length
  l10 : c10.length = f.blocks.length
  g9 : ∀ j, j < f.blocks.length → c9[j]? = some (if j = x then acc else if j < x then TT f j else [])
  g10 : ∀ j : Nat, j < f.blocks.length → c10[j]? = some (PP f x j ++ if (j : Int) ∈ acc then [(x : Int)] else [])

theorem new_b2 {f : Fnc} (hn : fOk f) {fuel : Nat} (hf : 1048577 < fuel) {x : Nat} (hx : x < f.blocks.length) {i : Ins} (hi : i.labels.length ≤ 1048576) {c9 c10 : List (List Int)} (h0 : NI f x [] c9 c10) :
    ∃ d9 d10, NI f x (tgl f i.labels) d9 d10 ∧ ∃ z, loopE fuel (fun s => p_graph_New_b2 fuel f (x : Int) i s.1 s.2.1 s.2.2) (c9, c10, 0) = some (.n (d9, d10, z)) := by
  have hn1 := hn.1
  refine Or.elim (loopE_inv (fun s : List (List Int) × List (List Int) × Int => ∃ y : Nat, s.2.2 = y ∧ y ≤ i.labels.length ∧ NI f x (tgl f (i.labels.take y)) s.1 s.2.1) (fun s => NI f x (tgl f i.labels) s.1 s.2.1) (fun _ : List (List Int) × List (List Int) => False) (fun s => i.labels.length - s.2.2.toNat)
    (fun s => p_graph_New_b2 fuel f (x : Int) i s.1 s.2.1 s.2.2) ?_ fuel (c9, c10, 0) ⟨0, rfl, by omega, h0⟩ (by simp; omega)) ?_ ?_
  rotate_left
  · rintro ⟨⟨d9, d10, z⟩, h1, h2⟩
    exact ⟨d9, d10, h2, z, h1⟩
  · rintro ⟨v, _, h⟩; exact h.elim
  · rintro ⟨a9, a10, q⟩ ⟨y, hq, hy, hI⟩
    simp only at hq hI
    subst hq
    show (∃ s', p_graph_New_b2 fuel f (x : Int) i a9 a10 (y : Int) = some (.n s') ∧ _) ∨ (∃ s', p_graph_New_b2 fuel f (x : Int) i a9 a10 (y : Int) = some (.b s') ∧ _) ∨ _
    unfold p_graph_New_b2
    by_cases hlt : y < i.labels.length
    · left
      obtain ⟨l, hl⟩ := getAt hlt
      have hlen := tgl_len f (i.labels.take y)
      simp at hlen
      have h9 := hI.g9 x hx
      simp only [if_true] at h9
      have hlt' : (y : Int) < (i.labels.length : Int) := by omega
      have hc := in_sl (l := tgl f (i.labels.take y)) (by omega) (fuel := fuel) (by omega) (fnd f l)
      simp only [hlt', decide_true, if_true, idx_nat hl, Option.bind_some, fnd_ir hn (by omega : 1048576 < fuel), idx_nat h9, hc]
      by_cases c : 0 ≤ fnd f l
      · by_cases d : fnd f l ∈ tgl f (i.labels.take y)
        · simp only [c, d, decide_true, if_true, Bool.not_true, Bool.false_eq_true, if_false, Option.bind_some]
          refine ⟨_, rfl, ⟨y + 1, wrap1 (by omega), by omega, ?_⟩, ?_⟩
          · rw [tgl_next f hl, addT, if_neg (fun e => e.2 d)]; exact hI
          · show i.labels.length - (IntKind.i64.wrap ((y : Int) + 1)).toNat < i.labels.length - ((y : Int)).toNat
            rw [wrap1 (by omega)]; omega
        · obtain ⟨k, hk⟩ := Int.eq_ofNat_of_zero_le c
          have hkn : k < f.blocks.length := by have := (fnd_lt hn l).2; omega
          have h10 := hI.g10 k hkn
          rw [hk] at d
          have hpl := PP_len f x k
          simp only [d, if_false, List.append_nil] at h10
          have ha1 : app (tgl f (i.labels.take y)) [(k : Int)] = some (tgl f (i.labels.take y) ++ [(k : Int)]) := app_ok (by simp; omega)
          have ha2 : app (PP f x k) [(x : Int)] = some (PP f x k ++ [(x : Int)]) := app_ok (by simp; omega)
          have hs1 : setI a9 (x : Int) (tgl f (i.labels.take y) ++ [(k : Int)]) = some (a9.set x (tgl f (i.labels.take y) ++ [(k : Int)])) := setI_nat (by rw [hI.l9]; exact hx)
          have hs2 : setI a10 (k : Int) (PP f x k ++ [(x : Int)]) = some (a10.set k (PP f x k ++ [(x : Int)])) := setI_nat (by rw [hI.l10]; exact hkn)
          have hk0 : (0 : Int) ≤ (k : Int) := by omega
          simp only [hk, hk0, d, decide_true, decide_false, if_true, Bool.not_false, Option.bind_some, ha1, hs1, idx_nat h10, ha2, hs2]
          refine ⟨_, rfl, ⟨y + 1, wrap1 (by omega), by omega, ?_⟩, ?_⟩
          · rw [tgl_next f hl, addT, if_pos ⟨c, by rw [hk]; exact d⟩, hk]
            refine ⟨by simp [hI.l9], by simp [hI.l10], ?_, ?_⟩
            · intro j hj
              by_cases e : j = x
              · subst e; rw [List.getElem?_set_self (by rw [hI.l9]; exact hx)]; simp
              · rw [List.getElem?_set_ne (by omega), hI.g9 j hj]; simp [e]
            · intro j hj
              by_cases e : j = k
              · subst e; rw [List.getElem?_set_self (by rw [hI.l10]; exact hj)]; simp
              · rw [List.getElem?_set_ne (by omega), hI.g10 j hj]
                have : ¬ ((j : Int) = (k : Int)) := by omega
                simp [this]
          · show i.labels.length - (IntKind.i64.wrap ((y : Int) + 1)).toNat < i.labels.length - ((y : Int)).toNat
            rw [wrap1 (by omega)]; omega
      · simp only [c, decide_false, if_true, Bool.false_eq_true, if_false, Option.bind_some]
        refine ⟨_, rfl, ⟨y + 1, wrap1 (by omega), by omega, ?_⟩, ?_⟩
        · rw [tgl_next f hl, addT, if_neg (fun e => c e.1)]; exact hI
        · show i.labels.length - (IntKind.i64.wrap ((y : Int) + 1)).toNat < i.labels.length - ((y : Int)).toNat
          rw [wrap1 (by omega)]; omega
    · right; left
      have hlt' : ¬ ((y : Int) < (i.labels.length : Int)) := by omega
      simp only [hlt', decide_false, Bool.false_eq_true, if_false]
      refine ⟨_, rfl, ?_⟩
      have : y = i.labels.length := by omega
      subst this
      simpa using hI
theorem NI_next {f : Fnc} {x : Nat} {d9 d10 : List (List Int)} (h : NI f x (TT f x) d9 d10) : NI f (x + 1) [] d9 d10 := by
  refine ⟨h.l9, h.l10, ?_, ?_⟩
  · intro j hj
    rw [h.g9 j hj]
    by_cases e : j = x
    · subst e; simp
    · by_cases c : j < x
      · have : j ≠ x + 1 := by omega
        simp [e, c, this, show j < x + 1 by omega]
      · have : ¬ j < x + 1 := by omega
        simp [e, c, this]
  · intro j hj
    rw [h.g10 j hj, PP_next]
    simp
theorem last_ok {f : Fnc} (hn : fOk f) {b : Bl} (hb : b ∈ f.blocks) (fuel : Nat) : (∃ i, lastB b = some i ∧ p_graph_last fuel b = some (i, true)) ∨ (lastB b = none ∧ ∃ z, p_graph_last fuel b = some (z, false)) := by
  have hc := (hn.2 b hb).1
  unfold p_graph_last p_op_Last
  by_cases h0 : b.code.length = 0
  · right
    have : lastB b = none := by
      unfold lastB
      have : b.code = [] := List.eq_nil_of_length_eq_zero h0
      simp [this]
    exact ⟨this, _, by simp [h0]; rfl⟩
  · obtain ⟨x, hx, hx'⟩ := last_idx hc h0
    have hp : ¬ ((b.code.length : Int) = 0) := by omega
    simp only [hp, decide_false, Bool.false_eq_true, if_false, hx', Option.bind_some]
    unfold lastB
    rw [hx]
    by_cases c : 20 ≤ x.op ∧ x.op ≤ 23
    · left; exact ⟨x, by simp [c], by simp [c]⟩
    · right; exact ⟨by simp [c], x, by simp only [Option.some.injEq, Prod.mk.injEq, true_and, Bool.and_eq_false_iff, decide_eq_false_iff_not]; omega⟩
theorem new_f {f : Fnc} (hn : fOk f) {fuel : Nat} (hf : 1048577 < fuel) : ∃ g, p_graph_New fuel f = some g ∧ g.succ.length = f.blocks.length ∧ g.pred.length = f.blocks.length ∧
    (∀ j, j < f.blocks.length → g.succ[j]? = some (TT f j)) ∧ ∀ j : Nat, j < f.blocks.length → g.pred[j]? = some (PP f f.blocks.length j) := by
  have hn1 := hn.1
  unfold p_graph_New
  rw [mk_nat (by omega)]
  simp only [Option.bind_some]
  refine Or.elim (loopE_inv (fun s : Int × List (List Int) × List (List Int) => ∃ x : Nat, s.1 = x ∧ x ≤ f.blocks.length ∧ NI f x [] s.2.1 s.2.2) (fun s => NI f f.blocks.length [] s.2.1 s.2.2) (fun _ : graph_Graph => False) (fun s => f.blocks.length - s.1.toNat)
    (fun s => p_graph_New_b1 fuel f s.1 s.2.1 s.2.2) ?_ fuel (0, List.replicate f.blocks.length [], List.replicate f.blocks.length []) ⟨0, rfl, by omega, ?_⟩ (by simp; omega)) ?_ ?_
  rotate_left
  · refine ⟨by simp, by simp, ?_, ?_⟩
    · intro j hj; simp [List.getElem?_replicate, hj]
    · intro j hj; simp [List.getElem?_replicate, hj, PP]
  · rintro ⟨⟨z, d9, d10⟩, h1, h2⟩
    rw [h1]
    refine ⟨⟨d9, d10⟩, rfl, h2.l9, h2.l10, ?_, ?_⟩
    · intro j hj
      have := h2.g9 j hj
      simpa [hj, show j ≠ f.blocks.length by omega] using this
    · intro j hj
      simpa using h2.g10 j hj
  · rintro ⟨v, _, h⟩; exact h.elim
  · rintro ⟨q, a9, a10⟩ ⟨x, hq, hx, hI⟩
    simp only at hq hI
    subst hq
    show (∃ s', p_graph_New_b1 fuel f (x : Int) a9 a10 = some (.n s') ∧ _) ∨ (∃ s', p_graph_New_b1 fuel f (x : Int) a9 a10 = some (.b s') ∧ _) ∨ _
    unfold p_graph_New_b1
    by_cases hlt : x < f.blocks.length
    · left
      obtain ⟨b, hb⟩ := getAt hlt
      have hm := List.mem_of_getElem? hb
      have hlt' : (x : Int) < (f.blocks.length : Int) := by omega
      have hT : TT f x = tg f b := by unfold TT; rw [hb]
      have done : ∀ d9 d10, NI f x (TT f x) d9 d10 → ((fun s : Int × List (List Int) × List (List Int) => ∃ x : Nat, s.1 = x ∧ x ≤ f.blocks.length ∧ NI f x [] s.2.1 s.2.2) (IntKind.i64.wrap ((x : Int) + 1), d9, d10) ∧ f.blocks.length - (IntKind.i64.wrap ((x : Int) + 1)).toNat < f.blocks.length - ((x : Int)).toNat) := by
        intro d9 d10 h
        rw [wrap1 (by omega)]
        exact ⟨⟨x + 1, rfl, by omega, NI_next h⟩, by omega⟩
      simp only [hlt', decide_true, if_true, idx_nat hb, Option.bind_some]
      rcases last_ok hn hm fuel with ⟨i, h1, h2⟩ | ⟨h1, z, h2⟩
      · obtain ⟨d9, d10, h3, z, h4⟩ := new_b2 hn hf hlt (lastB_len hn hm h1) hI
        simp only [h2, Option.bind_some, Bool.not_true, Bool.false_eq_true, if_false, h4, bindE]
        have ht : TT f x = tgl f i.labels := by rw [hT]; unfold tg; rw [h1]
        rw [← ht] at h3
        exact ⟨_, rfl, (done d9 d10 h3).1, (done d9 d10 h3).2⟩
      · simp only [h2, Option.bind_some, Bool.not_false, if_true]
        have ht : TT f x = [] := by rw [hT]; unfold tg; rw [h1]
        have h3 := hI
        rw [← ht] at h3
        exact ⟨_, rfl, (done a9 a10 h3).1, (done a9 a10 h3).2⟩
    · right; left
      have hlt' : ¬ ((x : Int) < (f.blocks.length : Int)) := by omega
      simp only [hlt', decide_false, Bool.false_eq_true, if_false]
      refine ⟨_, rfl, ?_⟩
      have : x = f.blocks.length := by omega
      subst this
      exact hI
end Go.Proofs.Ytodafoajkajnkaa.PL
set_option linter.unusedVariables false
set_option linter.unusedSimpArgs false
namespace Go.Proofs.Ytodafoajkajnkaa.PL
open Go

inductive Path (E : Nat → Nat → Prop) (ok : Nat → Prop) : Nat → Nat → Prop
  | one {a : Nat} : ok a → Path E ok a a
  | step {a b c : Nat} : ok a → E a b → Path E ok b c → Path E ok a c
theorem Path.fst {E : Nat → Nat → Prop} {ok : Nat → Prop} {a b : Nat} (h : Path E ok a b) : ok a := by cases h <;> assumption
theorem Path.lst {E : Nat → Nat → Prop} {ok : Nat → Prop} {a b : Nat} (h : Path E ok a b) : ok b := by
  induction h with
  | one h => exact h
  | step _ _ _ ih => exact ih
theorem Path.snoc {E : Nat → Nat → Prop} {ok : Nat → Prop} {a b c : Nat} (h : Path E ok a b) (e : E b c) (k : ok c) : Path E ok a c := by
  induction h with
  | one h => exact .step h e (.one k)
  | step h1 h2 _ ih => exact .step h1 h2 (ih e)
theorem Path.closed {E : Nat → Nat → Prop} {ok : Nat → Prop} {C : Nat → Prop} (hC : ∀ a b, C a → E a b → ok b → C b) {a b : Nat} (h : Path E ok a b) : C a → C b := by
  induction h with
  | one h => exact id
  | step h1 h2 h3 ih => exact fun c => ih (hC _ _ c h2 h3.fst)
theorem Path.back {E : Nat → Nat → Prop} {ok : Nat → Prop} {C : Nat → Prop} (hC : ∀ a b, C b → E a b → ok a → C a) {a b : Nat} (h : Path E ok a b) : C b → C a := by
  induction h with
  | one h => exact id
  | step h1 h2 h3 ih => exact fun c => hC _ _ (ih c) h2 h1

theorem count_le : ∀ (l k : List Bool), l.length = k.length → (∀ j : Nat, l[j]? = some true → k[j]? = some true) → l.count true ≤ k.count true ∧ (l.count true = k.count true → l = k) := by
  intro l
  induction l with
  | nil => intro k h _; cases k with
    | nil => simp
    | cons b k => simp at h
  | cons a l ih =>
    intro k h hs
    cases k with
    | nil => simp at h
    | cons b k =>
      obtain ⟨h1, h2⟩ := ih k (by simpa using h) (fun j hj => by simpa using hs (j + 1) (by simpa using hj))
      have h0 := hs 0
      cases a <;> cases b
      · simp only [List.count_cons]; simp; exact ⟨h1, h2⟩
      · simp only [List.count_cons]; simp; constructor
        · omega
        · intro e; omega
      · simp at h0
      · simp only [List.count_cons]; simp; exact ⟨h1, h2⟩

section
variable {f : Fnc} (hn : fOk f) {fuel : Nat} (hf : 1048577 < fuel) {wo : Int}
def EE (f : Fnc) (a b : Nat) : Prop := (b : Int) ∈ TT f a
def okk (wo : Int) (a : Nat) : Prop := (a : Int) ≠ wo
def SS (s : List Bool) (j : Nat) : Prop := s[j]? = some true
theorem TT_lt (hn : fOk f) {a b : Nat} (h : EE f a b) : b < f.blocks.length := by
  unfold EE TT at h
  split at h
  · have := (tg_in hn _ _ h).2; omega
  · simp at h
theorem TT_fst {a b : Nat} (h : EE f a b) : a < f.blocks.length := by
  unfold EE TT at h
  split at h
  · rename_i c; exact (List.getElem?_eq_some_iff.1 c).1
  · simp at h
theorem TT_in (hn : fOk f) {a : Nat} {r : Int} (h : r ∈ TT f a) : 0 ≤ r ∧ r < (f.blocks.length : Int) := by
  unfold TT at h
  split at h
  · exact tg_in hn _ _ h
  · simp at h
theorem TT_at {a : Nat} (h : a < f.blocks.length) : (f.blocks.map (tg f))[a]? = some (TT f a) := by
  obtain ⟨b, hb⟩ := getAt h
  unfold TT
  simp [hb]
theorem TT_len (hn : fOk f) (a : Nat) : (TT f a).length ≤ 1048576 := by
  unfold TT
  split
  · rename_i c; exact tg_len hn (List.mem_of_getElem? c)
  · simp
include hn hf in
theorem reach_b2 {seen : List Bool} (hs : seen.length = f.blocks.length) {i : Nat} (hi : i < f.blocks.length) :
    ∃ s', p_dyehouseref19_Reach_b2 fuel (f.blocks.map (tg f)) wo i seen = some s' ∧ s'.length = f.blocks.length ∧ (∀ j, SS seen j → SS s' j) ∧
      (SS seen i → ∀ j, EE f i j → okk wo j → SS s' j) ∧ ∀ j, SS s' j → SS seen j ∨ (SS seen i ∧ EE f i j ∧ okk wo j) := by
  have hn1 := hn.1
  have hlen := TT_len hn i
  have hT := idx_nat (TT_at hi)
  unfold p_dyehouseref19_Reach_b2
  refine Or.elim (loopE_inv (fun s : Int × List Bool => ∃ y : Nat, s.1 = y ∧ y ≤ (TT f i).length ∧ s.2.length = f.blocks.length ∧ (∀ j, SS seen j → SS s.2 j) ∧ (SS s.2 i → SS seen i) ∧
      (∀ z < y, ∀ j : Nat, (TT f i)[z]? = some (j : Int) → okk wo j → SS s.2 j) ∧ ∀ j, SS s.2 j → SS seen j ∨ (SS seen i ∧ EE f i j ∧ okk wo j))
    (fun s : Int × List Bool => s.2.length = f.blocks.length ∧ (∀ j, SS seen j → SS s.2 j) ∧ (SS seen i → ∀ j, EE f i j → okk wo j → SS s.2 j) ∧ ∀ j, SS s.2 j → SS seen j ∨ (SS seen i ∧ EE f i j ∧ okk wo j))
    (fun _ : List Bool => False) (fun s => (TT f i).length - s.1.toNat) (fun s => p_dyehouseref19_Reach_b3 fuel (f.blocks.map (tg f)) wo i s.1 s.2) ?_ fuel (0, seen)
    ⟨0, rfl, by omega, hs, fun _ h => h, fun h => h, by intro z h; omega, fun _ h => .inl h⟩ (by simp; omega)) ?_ ?_
  rotate_left
  · rintro ⟨⟨z, s'⟩, h1, h2, h3, h4, h5⟩
    rw [h1]
    exact ⟨s', rfl, h2, h3, h4, h5⟩
  · rintro ⟨v, _, h⟩; exact h.elim
  · rintro ⟨q, s⟩ ⟨y, hq, hy, hl, h3, h4, h5, h6⟩
    simp only at hq hl h3 h4 h5 h6
    subst hq
    show (∃ s', p_dyehouseref19_Reach_b3 fuel (f.blocks.map (tg f)) wo i (y : Int) s = some (.n s') ∧ _) ∨ (∃ s', p_dyehouseref19_Reach_b3 fuel (f.blocks.map (tg f)) wo i (y : Int) s = some (.b s') ∧ _) ∨ _
    unfold p_dyehouseref19_Reach_b3
    obtain ⟨x, hx⟩ := getAt (xs := s) (i := i) (by omega)
    cases x with
    | false =>
      right; left
      simp only [idx_nat hx, Option.bind_some, Bool.false_eq_true, if_false]
      refine ⟨_, rfl, hl, h3, ?_, h6⟩
      intro h
      have := h3 i h
      unfold SS at this
      rw [hx] at this
      cases this
    | true =>
      by_cases c : y < (TT f i).length
      · left
        obtain ⟨r, hr⟩ := getAt c
        obtain ⟨hr0, hr1⟩ := TT_in hn (List.mem_of_getElem? hr)
        obtain ⟨k, rfl⟩ := Int.eq_ofNat_of_zero_le hr0
        have hc : (y : Int) < ((TT f i).length : Int) := by omega
        have hSi : SS seen i := h4 hx
        have hE : EE f i k := List.mem_of_getElem? hr
        have hm : (TT f i).length - (IntKind.i64.wrap ((y : Int) + 1)).toNat < (TT f i).length - ((y : Int)).toNat := by rw [wrap1 (by omega)]; omega
        simp only [idx_nat hx, Option.bind_some, if_true, hT, hc, decide_true, idx_nat hr]
        by_cases d : (k : Int) = wo
        · simp only [d, ne_eq, not_true_eq_false, decide_false, Bool.false_eq_true, if_false, Option.bind_some]
          refine ⟨_, rfl, ⟨y + 1, wrap1 (by omega), by omega, hl, h3, h4, ?_, h6⟩, hm⟩
          intro z hz j hj hok
          by_cases e : z = y
          · subst e; rw [hr] at hj; have := Option.some.inj hj
            exact absurd (this.symm.trans d) hok
          · exact h5 z (by omega) j hj hok
        · obtain ⟨v, hv⟩ := getAt (xs := s) (i := k) (by omega)
          have hset : setI s (k : Int) true = some (s.set k true) := setI_nat (by omega)
          have hself : (s.set k true)[k]? = some true := List.getElem?_set_self (by omega)
          have hsup : ∀ j, SS s j → SS (s.set k true) j := by
            intro j hj
            by_cases e : j = k
            · subst e; exact hself
            · show (s.set k true)[j]? = some true
              rw [List.getElem?_set_ne (by omega)]; exact hj
          simp only [ne_eq, d, not_false_eq_true, decide_true, if_true, idx_nat hv, Option.bind_some, hset]
          refine ⟨_, rfl, ⟨y + 1, wrap1 (by omega), by omega, by simpa using hl, fun j hj => hsup j (h3 j hj), fun _ => hSi, ?_, ?_⟩, hm⟩
          · intro z hz j hj hok
            by_cases e : z = y
            · subst e; rw [hr] at hj; have := Option.some.inj hj
              have : j = k := by omega
              subst this; exact hself
            · exact hsup j (h5 z (by omega) j hj hok)
          · intro j hj
            by_cases e : j = k
            · subst e; exact .inr ⟨hSi, hE, d⟩
            · refine h6 j ?_
              have hj' : (s.set k true)[j]? = some true := hj
              rw [List.getElem?_set_ne (by omega)] at hj'; exact hj'
      · right; left
        have hc : ¬ ((y : Int) < ((TT f i).length : Int)) := by omega
        simp only [idx_nat hx, Option.bind_some, if_true, hT, hc, decide_false, Bool.false_eq_true, if_false]
        refine ⟨_, rfl, hl, h3, ?_, h6⟩
        intro _ j hj hok
        obtain ⟨z, hz⟩ := List.getElem?_of_mem hj
        have := (List.getElem?_eq_some_iff.1 hz).1
        exact h5 z (by omega) j hz hok

def Cl (f : Fnc) (wo : Int) (C : Nat → Prop) : Prop := ∀ a b, C a → EE f a b → okk wo b → C b
include hn hf in
theorem reach_b1 {seen : List Bool} (hs : seen.length = f.blocks.length) (x : Int) :
    ∃ s', p_dyehouseref19_Reach_b1 fuel (f.blocks.map (tg f)) wo x seen = some s' ∧ s'.length = f.blocks.length ∧ (∀ j, SS seen j → SS s' j) ∧
      (∀ i j, SS seen i → EE f i j → okk wo j → SS s' j) ∧ ∀ C, Cl f wo C → (∀ j, SS seen j → C j) → ∀ j, SS s' j → C j := by
  have hn1 := hn.1
  unfold p_dyehouseref19_Reach_b1
  obtain ⟨s', h1, h2, h3, h4, h5⟩ := toN_inv (fun i (s : List Bool) => s.length = f.blocks.length ∧ (∀ j, SS seen j → SS s j) ∧ (∀ i' < i, ∀ j, SS seen i' → EE f i' j → okk wo j → SS s j) ∧ ∀ C, Cl f wo C → (∀ j, SS seen j → C j) → ∀ j, SS s j → C j)
    (fun i s => p_dyehouseref19_Reach_b2 fuel (f.blocks.map (tg f)) wo i s) f.blocks.length (by omega) (s := seen) ⟨hs, fun _ h => h, by intro i h; omega, fun _ _ h => h⟩ (by
      rintro i s hi ⟨h2, h3, h4, h5⟩
      obtain ⟨t, k1, k2, k3, k4, k5⟩ := reach_b2 hn hf (wo := wo) h2 hi
      refine ⟨t, k1, k2, fun j h => k3 j (h3 j h), ?_, ?_⟩
      · intro i' hi' j hS hE hok
        by_cases e : i' = i
        · subst e; exact k4 (h3 _ hS) j hE hok
        · exact k3 j (h4 i' (by omega) j hS hE hok)
      · intro C hC hsub j hj
        rcases k5 j hj with h | ⟨h, hE, hok⟩
        · exact h5 C hC hsub j h
        · exact hC i j (h5 C hC hsub i h) hE hok)
  rw [List.length_map, h1]
  exact ⟨s', rfl, h2, h3, fun i j hS hE hok => h4 i (TT_fst hE) j hS hE hok, h5⟩
include hn hf in
theorem reach_ok {k : Nat} (hk : k < f.blocks.length) : ∃ s, p_dyehouseref19_Reach fuel (f.blocks.map (tg f)) k wo = some s ∧ s.length = f.blocks.length ∧ ∀ j, SS s j ↔ Path (EE f) (okk wo) k j := by
  have hn1 := hn.1
  unfold p_dyehouseref19_Reach
  rw [List.length_map, mk_nat (by omega)]
  have h0 : ∀ j, ¬ SS (List.replicate f.blocks.length false) j := by
    intro j h
    unfold SS at h
    rw [List.getElem?_replicate] at h
    split at h <;> simp at h
  have c1 : decide ((k : Int) < 0) = false := by simp
  have c2 : decide ((f.blocks.length : Int) ≤ (k : Int)) = false := by simp; omega
  simp only [Option.bind_some, c1, c2, Bool.false_or]
  by_cases c : (k : Int) = wo
  · simp only [c, decide_true, if_true]
    refine ⟨_, rfl, by simp, ?_⟩
    intro j
    constructor
    · intro h; exact absurd h (h0 j)
    · intro h; exact absurd c h.fst
  · have hset : setI (List.replicate f.blocks.length false) (k : Int) true = some ((List.replicate f.blocks.length false).set k true) := setI_nat (by simpa using hk)
    have hidx : idx (List.replicate f.blocks.length false) (k : Int) = some false := idx_nat (by simp [List.getElem?_replicate, hk])
    simp only [c, decide_false, Bool.false_eq_true, if_false, hidx, Option.bind_some, hset]
    obtain ⟨s', h1, h2, h3, h4, h5⟩ := toN_inv (fun i (s : List Bool) => s.length = f.blocks.length ∧ SS s k ∧ (Cl f wo (SS s) ∨ i + 1 ≤ s.count true) ∧ ∀ C, Cl f wo C → C k → ∀ j, SS s j → C j)
      (fun i s => p_dyehouseref19_Reach_b1 fuel (f.blocks.map (tg f)) wo i s) f.blocks.length (by omega) (s := (List.replicate f.blocks.length false).set k true)
      ⟨by simp, List.getElem?_set_self (by simpa using hk), .inr (by
        have : true ∈ (List.replicate f.blocks.length false).set k true := List.mem_of_getElem? (List.getElem?_set_self (by simpa using hk))
        have := List.count_pos_iff.2 this
        omega), by
        intro C hC hCk j hj
        by_cases e : j = k
        · subst e; exact hCk
        · unfold SS at hj
          rw [List.getElem?_set_ne (by omega)] at hj
          exact absurd hj (h0 j)⟩ (by
      rintro i s hi ⟨h2, h3, h4, h5⟩
      obtain ⟨t, k1, k2, k3, k4, k5⟩ := reach_b1 hn hf (wo := wo) h2 i
      refine ⟨t, k1, k2, k3 k h3, ?_, fun C hC hCk j hj => k5 C hC (h5 C hC hCk) j hj⟩
      obtain ⟨m1, m2⟩ := count_le s t (by omega) k3
      rcases h4 with h4 | h4
      · left
        have hst : ∀ j, SS t j → SS s j := k5 (SS s) h4 (fun _ h => h)
        intro a b ha hE hok
        exact k3 b (h4 a b (hst a ha) hE hok)
      · by_cases e : s.count true = t.count true
        · left
          have := m2 e
          subst this
          exact fun a b ha hE hok => k4 a b ha hE hok
        · right; omega)
    rw [h1]
    refine ⟨s', rfl, h2, ?_⟩
    have hcl : Cl f wo (SS s') := by
      rcases h4 with h4 | h4
      · exact h4
      · have := List.count_le_length (a := true) (l := s')
        omega
    intro j
    constructor
    · exact fun h => h5 (fun j => Path (EE f) (okk wo) k j) (fun a b ha hE hok => ha.snoc hE hok) (.one c) j h
    · exact fun h => h.closed (C := SS s') hcl h3
end
end Go.Proofs.Ytodafoajkajnkaa.PL
set_option linter.unusedVariables false
set_option linter.unusedSectionVars false
set_option linter.unusedSimpArgs false
namespace Go.Proofs.Ytodafoajkajnkaa.PL
open Go

theorem top_wrap {α : Type} (st : List α) (a : α) (h : st.length ≤ 4294967) : IntKind.wrap .i64 (((st ++ [a]).length : Int) - 1) = (st.length : Int) := by
  rw [wrap_in (by simp) (by simp; omega)]; simp
theorem top_idx {α : Type} (st : List α) (a : α) : idx (st ++ [a]) (st.length : Int) = some a := idx_nat (by simp)
theorem top_set {α : Type} (st : List α) (a b : α) : setI (st ++ [a]) (st.length : Int) b = some (st ++ [b]) := by
  rw [setI_nat (by simp)]
  rw [List.set_append]
  simp
theorem top_cut {α : Type} (st : List α) (a : α) : sli (st ++ [a]) 0 (st.length : Int) = some st := by
  unfold sli
  rw [if_pos (by simp; omega)]
  simp
theorem reverse_ok {l : List Int} (hl : l.length ≤ 1048576) {fuel : Nat} (hf : 1048577 < fuel) : p_slices_Reverse_int_int fuel l = some l.reverse := by
  unfold p_slices_Reverse_int_int
  refine Or.elim (loopE_inv (fun q : List Int × Int × Int => ∃ i : Nat, q.2.1 = i ∧ q.2.2 = (l.length : Int) - 1 - i ∧ i ≤ l.length ∧ q.1.length = l.length ∧ ∀ k, k < l.length → q.1[k]? = if k < i ∨ l.length ≤ k + i then l[l.length - 1 - k]? else l[k]?) (fun q => q.1 = l.reverse) (fun _ : List Int => False) (fun q => l.length - q.2.1.toNat)
    (fun s => p_slices_Reverse_int_int_b1 fuel s.1 s.2.1 s.2.2) ?_ fuel (l, 0, IntKind.wrap .i64 ((l.length : Int) - 1)) ⟨0, rfl, by simp only [wrap_in (show -9223372036854775808 ≤ (l.length : Int) - 1 by omega) (show (l.length : Int) - 1 ≤ 9223372036854775807 by omega)]; omega, by omega, rfl, by
      intro k hk; rw [if_neg (by omega)]⟩ (by simp; omega)) ?_ ?_
  rotate_left
  · rintro ⟨⟨a, b, c⟩, k1, k2⟩
    rw [k1]
    simp only at k2
    rw [← k2]
    rfl
  · rintro ⟨v, _, h⟩; exact h.elim
  · rintro ⟨s, p, q⟩ ⟨i, hp, hq, hi, hs, hk⟩
    simp only at hp hq hs hk
    subst hp; subst hq
    show (∃ s', p_slices_Reverse_int_int_b1 fuel s (i : Int) ((l.length : Int) - 1 - i) = some (.n s') ∧ _) ∨ (∃ s', p_slices_Reverse_int_int_b1 fuel s (i : Int) ((l.length : Int) - 1 - i) = some (.b s') ∧ _) ∨ _
    unfold p_slices_Reverse_int_int_b1
    by_cases c : 2 * i + 1 < l.length
    · left
      have hc : (i : Int) < (l.length : Int) - 1 - i := by omega
      obtain ⟨J, hJ⟩ : ∃ J, J + i + 1 = l.length := ⟨l.length - 1 - i, by omega⟩
      have hJ' : (l.length : Int) - 1 - i = (J : Int) := by omega
      obtain ⟨xJ, h1⟩ := getAt (xs := s) (i := J) (by omega)
      obtain ⟨xi, h2⟩ := getAt (xs := s) (i := i) (by omega)
      obtain ⟨xK, h3⟩ := getAt (xs := s.set i xJ) (i := J) (by simp; omega)
      have hs1 : setI s (i : Int) xJ = some (s.set i xJ) := setI_nat (by omega)
      have hs2 : setI (s.set i xJ) (J : Int) xi = some ((s.set i xJ).set J xi) := setI_nat (by simp; omega)
      have hJi : (i : Int) < (J : Int) := by omega
      simp only [hJ', hJi, decide_true, if_true, idx_nat h1, idx_nat h2, Option.bind_some, hs1, idx_nat h3, hs2]
      refine ⟨_, rfl, ⟨i + 1, wrap1 (by omega), ?_, by omega, by simp; omega, ?_⟩, ?_⟩
      · show IntKind.i64.wrap ((J : Int) - 1) = _
        rw [wrap_in (by omega) (by omega)]; omega
      · intro k hkl
        show ((s.set i xJ).set J xi)[k]? = _
        by_cases e : k = J
        · subst e
          rw [List.getElem?_set_self (by simp; omega), if_pos (by omega), show l.length - 1 - k = i by omega, ← h2, hk i (by omega), if_neg (by omega)]
        · rw [List.getElem?_set_ne (by omega)]
          by_cases e2 : k = i
          · subst e2
            rw [List.getElem?_set_self (by omega), if_pos (by omega), show l.length - 1 - k = J by omega, ← h1, hk J (by omega), if_neg (by omega)]
          · rw [List.getElem?_set_ne (by omega), hk k hkl]
            by_cases e3 : k < i ∨ l.length ≤ k + i
            · rw [if_pos e3, if_pos (by omega)]
            · rw [if_neg e3, if_neg (by omega)]
      · show l.length - (IntKind.i64.wrap ((i : Int) + 1)).toNat < l.length - ((i : Int)).toNat
        rw [wrap1 (by omega)]; omega
    · right; left
      have hc : ¬ ((i : Int) < (l.length : Int) - 1 - i) := by omega
      simp only [hc, decide_false, Bool.false_eq_true, if_false]
      refine ⟨_, rfl, ?_⟩
      show s = l.reverse
      apply List.ext_getElem?
      intro k
      by_cases hkl : k < l.length
      · rw [List.getElem?_reverse hkl, hk k hkl]
        split
        · rfl
        · rw [show l.length - 1 - k = k by omega]
      · rw [List.getElem?_eq_none (by omega), List.getElem?_eq_none (by simp; omega)]

theorem nodup_len : ∀ (n : Nat) (l : List Nat), l.Nodup → (∀ x ∈ l, x < n) → l.length ≤ n
  | 0, l, _, h => by
    cases l with
    | nil => simp
    | cons x l => have := h x (by simp); omega
  | n + 1, l, hn, h => by
    by_cases hm : n ∈ l
    · have h1 := nodup_len n (l.erase n) (hn.erase n) (fun x hx => by
        have h2 := (hn.mem_erase_iff).1 hx
        have := h x h2.2
        have := h2.1
        omega)
      rw [List.length_erase_of_mem hm] at h1
      omega
    · have h1 := nodup_len n l hn (fun x hx => by
        have := h x hx
        have : x ≠ n := fun e => hm (e ▸ hx)
        omega)
      omega
/-- One stands ahead of another. -/
def Bef (l : List Nat) (a b : Nat) : Prop := ∃ i j : Nat, i < j ∧ l[i]? = some a ∧ l[j]? = some b
theorem Bef.snoc {l : List Nat} {a b x : Nat} (h : Bef l a b) : Bef (l ++ [x]) a b := by
  obtain ⟨i, j, h1, h2, h3⟩ := h
  have hi := (List.getElem?_eq_some_iff.1 h2).1
  have hj := (List.getElem?_eq_some_iff.1 h3).1
  exact ⟨i, j, h1, by rw [List.getElem?_append_left hi]; exact h2, by rw [List.getElem?_append_left hj]; exact h3⟩
theorem Bef.last {l : List Nat} {a x : Nat} (h : a ∈ l) : Bef (l ++ [x]) a x := by
  obtain ⟨i, hi⟩ := List.getElem?_of_mem h
  have hl := (List.getElem?_eq_some_iff.1 hi).1
  exact ⟨i, l.length, hl, by rw [List.getElem?_append_left hl]; exact hi, by simp⟩
/-- The sum of what is not there yet. -/
def cS (h : Nat → Bool) (w : Nat → Nat) : Nat → Nat
  | 0 => 0
  | n + 1 => cS h w n + if h n = true then 0 else w n
theorem cS_le {h : Nat → Bool} {w : Nat → Nat} {W : Nat} (hw : ∀ j, w j ≤ W) : ∀ n, cS h w n ≤ n * W
  | 0 => by simp [cS]
  | n + 1 => by
    have := cS_le hw (h := h) n
    have := hw n
    rw [cS, Nat.succ_mul]
    split <;> omega
theorem cS_same {h h' : Nat → Bool} {w : Nat → Nat} : ∀ n, (∀ j, j < n → h' j = h j) → cS h' w n = cS h w n
  | 0, _ => rfl
  | n + 1, hh => by rw [cS, cS, cS_same n fun j hj => hh j (by omega), hh n (by omega)]
theorem cS_add {h h' : Nat → Bool} {w : Nat → Nat} {c : Nat} (hc : h c = false) (hh : ∀ j, h' j = (h j || decide (j = c))) : ∀ n, c < n → cS h' w n + w c = cS h w n
  | 0, hn => by omega
  | n + 1, hn => by
    rw [cS, cS]
    by_cases e : c = n
    · subst e
      have e := cS_same (h := h) (h' := h') (w := w) c (fun j hj => by
        rw [hh]
        have : j ≠ c := by omega
        simp [this])
      rw [e, hh]; simp [hc]
    · have := cS_add hc hh (w := w) n (by omega)
      have hn2 : h' n = h n := by rw [hh]; have : n ≠ c := by omega
                                  simp [this]
      rw [hn2]; omega

section post
variable {f : Fnc} (hn : fOk f) {fuel : Nat} {g : graph_Graph} (h2 : ∀ j : Nat, j < f.blocks.length → g.succ[j]? = some (TT f j))
def PT (f : Fnc) (a b : Nat) : Prop := Path (EE f) (okk (-1)) a b
theorem okk_all (a : Nat) : okk (-1) a := by unfold okk; omega
theorem PT.refl (f : Fnc) (a : Nat) : PT f a a := .one (okk_all _)
theorem PT.snoc' {a b c : Nat} (h : PT f a b) (e : EE f b c) : PT f a c := Path.snoc h e (okk_all _)
def emb (p : Nat × Nat) : A2 Int := ⟨(p.1 : Int), (p.2 : Int)⟩
def embN (l : List Nat) : List Int := l.map fun (k : Nat) => (k : Int)
structure PInv (f : Fnc) (w : List Nat) (st : List (Nat × Nat)) (s : bits_Set) : Prop where
  V : bV s f.blocks.length
  lt : ∀ p ∈ st, p.1 < f.blocks.length ∧ p.2 ≤ (TT f p.1).length
  wlt : ∀ v ∈ w, v < f.blocks.length
  nd : (w ++ st.map (·.1)).Nodup
  seen : ∀ j, j < f.blocks.length → (bH s j = true ↔ j ∈ w ∨ j ∈ st.map (·.1))
  cnt : ∀ p ∈ st, ∀ z, z < p.2 → ∀ c : Nat, (TT f p.1)[z]? = some (c : Int) → bH s c = true
  edge : ∀ (i : Nat) p q, st[i]? = some p → st[i + 1]? = some q → EE f p.1 q.1
  bot : (∃ p, st[0]? = some p ∧ p.1 = 0) ∨ (st = [] ∧ w.getLast? = some 0)
  par : ∀ v ∈ w, v = 0 ∨ ∃ p, EE f p v ∧ (p ∈ st.map (·.1) ∨ Bef w v p)
  ed : ∀ v ∈ w, ∀ c, EE f v c → Bef w c v ∨ PT f c v
  cl : ∀ v ∈ w, ∀ c, EE f v c → bH s c = true
  rch : ∀ j, j < f.blocks.length → bH s j = true → PT f 0 j
theorem PInv.path {w : List Nat} {st : List (Nat × Nat)} {s : bits_Set} (h : PInv f w st s) : ∀ (d i : Nat) p q, st[i]? = some p → st[i + d]? = some q → PT f p.1 q.1
  | 0, i, p, q, hp, hq => by
    rw [Nat.add_zero, hp] at hq; cases hq; exact PT.refl _ _
  | d + 1, i, p, q, hp, hq => by
    have hl : i + d < st.length := by have := (List.getElem?_eq_some_iff.1 hq).1; omega
    have hr : st[i + d]? = some st[i + d] := by simp [hl]
    exact (h.path d i p _ hp hr).snoc' (h.edge (i + d) _ q hr hq)
def pm (f : Fnc) (s : List Int × List (A2 Int) × bits_Set) : Nat := cS (bH s.2.2) (fun j => (TT f j).length + 2) f.blocks.length + (s.2.1.map fun p => (TT f p.a0.toNat).length - p.a1.toNat + 1).sum
theorem sum_snoc {α : Type} (l : List α) (x : α) (m : α → Nat) : ((l ++ [x]).map m).sum = (l.map m).sum + m x := by simp
include hn h2 in
theorem post_step {w : List Nat} {st : List (Nat × Nat)} {s : bits_Set} (hI : PInv f w st s) :
    (∃ w' st' s', p_graph_Graph_post_b1 fuel g (embN w) (st.map emb) s = some (.n (embN w', st'.map emb, s')) ∧ PInv f w' st' s' ∧ pm f (embN w', st'.map emb, s') < pm f (embN w, st.map emb, s)) ∨
      (st = [] ∧ p_graph_Graph_post_b1 fuel g (embN w) (st.map emb) s = some (.b (embN w, [], s))) := by
  have hn1 := hn.1
  have hsl : st.length ≤ f.blocks.length := by
    have := nodup_len f.blocks.length (st.map (·.1)) (List.nodup_append.1 hI.nd).2.1 (fun x hx => by obtain ⟨p, hp, rfl⟩ := List.mem_map.1 hx; exact (hI.lt p hp).1)
    simpa using this
  have hwl : w.length ≤ f.blocks.length := nodup_len _ w (List.nodup_append.1 hI.nd).1 hI.wlt
  rcases List.eq_nil_or_concat st with rfl | ⟨rho, ⟨v, k⟩, rfl⟩
  · right
    refine ⟨rfl, ?_⟩
    unfold p_graph_Graph_post_b1
    simp
  · left
    rw [List.concat_eq_append] at hI hsl ⊢
    obtain ⟨hv, hk⟩ := hI.lt (v, k) (by simp)
    simp only at hv hk
    have hrl : (rho.map emb).length ≤ 4294967 := by simp at hsl ⊢; omega
    have hmap : (rho ++ [(v, k)]).map emb = rho.map emb ++ [(⟨(v : Int), (k : Int)⟩ : A2 Int)] := by simp [emb]
    rw [hmap]
    unfold p_graph_Graph_post_b1
    have hp : (0 : Int) < ((rho.map emb ++ [(⟨(v : Int), (k : Int)⟩ : A2 Int)]).length : Int) := by simp
    have hT := idx_nat (h2 v hv)
    simp only [hp, decide_true, if_true, top_wrap _ _ hrl, top_idx, Option.bind_some, hT]
    by_cases hke : k = (TT f v).length
    · -- it is left
      subst hke
      have ha : app (embN w) [(v : Int)] = some (embN (w ++ [v])) := by rw [app_ok (by simp [embN]; omega)]; simp [embN]
      simp only [decide_true, if_true, top_cut, Option.bind_some, ha]
      have hvw : v ∉ w := by
        intro h
        exact (List.nodup_append.1 hI.nd).2.2 v h v (by simp) rfl
      have hnd : ((w ++ [v]) ++ rho.map (·.1)).Nodup := by
        have h1 := hI.nd
        rw [List.map_append] at h1
        refine (List.Perm.nodup_iff ?_).1 h1
        rw [List.append_assoc]
        exact List.Perm.append_left w List.perm_append_comm
      have hseen : ∀ j, j < f.blocks.length → (bH s j = true ↔ j ∈ w ++ [v] ∨ j ∈ rho.map (·.1)) := by
        intro j hj
        rw [hI.seen j hj]
        simp only [List.map_append, List.mem_append, List.map_cons, List.map_nil, List.mem_singleton]
        constructor
        · rintro (h | h | h)
          · exact .inl (.inl h)
          · exact .inr h
          · exact .inl (.inr h)
        · rintro ((h | h) | h)
          · exact .inl h
          · exact .inr (.inr h)
          · exact .inr (.inl h)
      have hcv : ∀ c, EE f v c → bH s c = true := by
        intro c hc
        obtain ⟨z, hz⟩ := List.getElem?_of_mem hc
        exact hI.cnt (v, _) (by simp) z (List.getElem?_eq_some_iff.1 hz).1 c hz
      refine ⟨w ++ [v], rho, s, rfl, ⟨hI.V, fun p hp => hI.lt p (by simp [hp]), ?_, hnd, hseen, fun p hp => hI.cnt p (by simp [hp]), ?_, ?_, ?_, ?_, ?_, hI.rch⟩, ?_⟩
      · intro x hx
        rcases List.mem_append.1 hx with hx | hx
        · exact hI.wlt x hx
        · rw [List.mem_singleton.1 hx]; exact hv
      · intro i p q hp hq
        have hp1 := (List.getElem?_eq_some_iff.1 hp).1
        have hq1 := (List.getElem?_eq_some_iff.1 hq).1
        exact hI.edge i p q (by rw [List.getElem?_append_left hp1]; exact hp) (by rw [List.getElem?_append_left hq1]; exact hq)
      · rcases List.eq_nil_or_concat rho with rfl | ⟨rho', p', rfl⟩
        · right
          refine ⟨rfl, ?_⟩
          rcases hI.bot with ⟨p, h1, h2⟩ | ⟨h1, _⟩
          · simp at h1
            subst h1
            simp at h2
            subst h2
            simp
          · simp at h1
        · left
          rcases hI.bot with ⟨p, h1, h2⟩ | ⟨h1, _⟩
          · refine ⟨p, ?_, h2⟩
            rw [List.getElem?_append_left (by simp)] at h1
            exact h1
          · simp at h1
      · intro x hx
        rcases List.mem_append.1 hx with hx | hx
        · rcases hI.par x hx with h | ⟨p, hE, h⟩
          · exact .inl h
          · refine .inr ⟨p, hE, ?_⟩
            rcases h with h | h
            · simp only [List.map_append, List.mem_append, List.map_cons, List.map_nil, List.mem_singleton] at h
              rcases h with h | h
              · exact .inl h
              · rw [h]; exact .inr (Bef.last hx)
            · exact .inr h.snoc
        · rw [List.mem_singleton.1 hx]
          rcases List.eq_nil_or_concat rho with rfl | ⟨rho', p', e9⟩
          · left
            rcases hI.bot with ⟨p, h1, h2⟩ | ⟨h1, _⟩
            · simp at h1
              subst h1
              exact h2
            · simp at h1
          · right
            rw [List.concat_eq_append] at e9
            subst e9
            refine ⟨p'.1, hI.edge rho'.length p' (v, (TT f v).length) (by simp) (by simp), .inl (by simp)⟩
      · intro x hx c hc
        rcases List.mem_append.1 hx with hx | hx
        · exact (hI.ed x hx c hc).imp (fun h => h.snoc) id
        · rw [List.mem_singleton.1 hx] at hc ⊢
          rcases (hI.seen c (TT_lt hn hc)).1 (hcv c hc) with h | h
          · exact .inl (Bef.last h)
          · right
            obtain ⟨q, hq, rfl⟩ := List.mem_map.1 h
            obtain ⟨i, hi⟩ := List.getElem?_of_mem hq
            have hil := (List.getElem?_eq_some_iff.1 hi).1
            have hl2 : i + (rho.length - i) = rho.length := by simp at hil; omega
            exact hI.path (rho.length - i) i q (v, (TT f v).length) hi (by rw [hl2]; simp)
      · intro x hx c hc
        rcases List.mem_append.1 hx with hx | hx
        · exact hI.cl x hx c hc
        · rw [List.mem_singleton.1 hx] at hc
          exact hcv c hc
      · show cS _ _ _ + ((rho.map emb).map _).sum < cS _ _ _ + ((rho.map emb ++ [_]).map _).sum
        rw [sum_snoc]
        simp
    · have hkl : k < (TT f v).length := by omega
      obtain ⟨r, hr⟩ := getAt hkl
      obtain ⟨hr0, hr1⟩ := TT_in hn (List.mem_of_getElem? hr)
      obtain ⟨c, rfl⟩ := Int.eq_ofNat_of_zero_le hr0
      have hc : c < f.blocks.length := by omega
      have hE : EE f v c := List.mem_of_getElem? hr
      have hne : ¬ ((k : Int) = ((TT f v).length : Int)) := by omega
      have hlen := TT_len hn v
      simp only [hne, decide_false, Bool.false_eq_true, if_false, top_set, idx_nat hr, Option.bind_some, wrap1 (show k ≤ 4294967296 by omega)]
      unfold p_graph_Graph_post_1
      have hmp : (rho ++ [(v, k)]).map (·.1) = (rho ++ [(v, k + 1)]).map (·.1) := by simp
      have emb1 : rho.map emb ++ [(⟨(v : Int), ((k + 1 : Nat) : Int)⟩ : A2 Int)] = (rho ++ [(v, k + 1)]).map emb := by simp [emb]
      rcases add_ok hI.V (by omega) fuel (c : Int) with ⟨k1, k2⟩ | ⟨c', s', e, hc', hb, k1, k3, k4⟩
      · have hbc := k2 c rfl hc
        simp only [k1, Option.bind_some, Bool.false_eq_true, if_false]
        refine ⟨w, rho ++ [(v, k + 1)], s, by rw [← emb1], ⟨hI.V, ?_, hI.wlt, by rw [← hmp]; exact hI.nd, fun j hj => by rw [← hmp]; exact hI.seen j hj, ?_, ?_, ?_, ?_, hI.ed, hI.cl, hI.rch⟩, ?_⟩
        · intro p hp
          rcases List.mem_append.1 hp with hp | hp
          · exact hI.lt p (by simp [hp])
          · rw [List.mem_singleton.1 hp]; exact ⟨hv, by simp; omega⟩
        · intro p hp z hz c' hc'
          rcases List.mem_append.1 hp with hp | hp
          · exact hI.cnt p (by simp [hp]) z hz c' hc'
          · rw [List.mem_singleton.1 hp] at hz hc'
            simp only at hz hc'
            by_cases e : z = k
            · subst e; rw [hr] at hc'; have := Option.some.inj hc'
              have : c = c' := by omega
              subst this; exact hbc
            · exact hI.cnt (v, k) (by simp) z (by simp only; omega) c' hc'
        · intro i p q hp hq
          have hq1 := (List.getElem?_eq_some_iff.1 hq).1
          have key : ∀ (j : Nat) (x : Nat × Nat), (rho ++ [(v, k + 1)])[j]? = some x → ∃ y, (rho ++ [(v, k)])[j]? = some y ∧ y.1 = x.1 := by
            intro j x hx
            by_cases hj : j < rho.length
            · rw [List.getElem?_append_left hj] at hx; exact ⟨x, by rw [List.getElem?_append_left hj]; exact hx, rfl⟩
            · have hj2 := (List.getElem?_eq_some_iff.1 hx).1
              have : j = rho.length := by simp at hj2; omega
              subst this
              simp at hx; subst hx
              exact ⟨(v, k), by simp, rfl⟩
          obtain ⟨p', h1, e1⟩ := key i p hp
          obtain ⟨q', h2, e2⟩ := key (i + 1) q hq
          rw [← e1, ← e2]; exact hI.edge i p' q' h1 h2
        · rcases hI.bot with ⟨p, h1, h2⟩ | ⟨h1, _⟩
          · left
            by_cases hr0 : rho = []
            · subst hr0; simp at h1; subst h1; exact ⟨(v, k + 1), by simp, h2⟩
            · have hpos : 0 < rho.length := List.length_pos_iff.2 hr0
              rw [List.getElem?_append_left hpos] at h1
              exact ⟨p, by rw [List.getElem?_append_left hpos]; exact h1, h2⟩
          · simp at h1
        · intro x hx
          rw [← hmp]; exact hI.par x hx
        · show cS _ _ _ + (((rho ++ [(v, k + 1)]).map emb).map _).sum < cS _ _ _ + ((rho.map emb ++ [_]).map _).sum
          rw [← emb1, sum_snoc, sum_snoc]
          simp
          omega
      · have : c' = c := by omega
        subst this
        have happ : app (rho.map emb ++ [(⟨(v : Int), ((k + 1 : Nat) : Int)⟩ : A2 Int)]) [(⟨(c' : Int), 0⟩ : A2 Int)] = some ((rho ++ [(v, k + 1)] ++ [(c', 0)]).map emb) := by
          rw [app_ok (by simp; simp at hrl; omega)]; simp [emb]
        simp only [k1, Option.bind_some, if_true, happ]
        have hup : ∀ j, bH s j = true → bH s' j = true := fun j h => by rw [k4 j, h]; rfl
        have hcs : bH s' c' = true := by rw [k4]; simp
        have hcn : c' ∉ w ∧ c' ∉ (rho ++ [(v, k + 1)]).map (·.1) := by
          have := hI.seen c' hc
          rw [hb] at this
          constructor
          · intro h; exact absurd (this.2 (.inl h)) (by simp)
          · intro h; rw [← hmp] at h; exact absurd (this.2 (.inr h)) (by simp)
        refine ⟨w, rho ++ [(v, k + 1)] ++ [(c', 0)], s', rfl, ⟨k3, ?_, hI.wlt, ?_, ?_, ?_, ?_, ?_, ?_, hI.ed, fun x hx c hc => hup c (hI.cl x hx c hc), ?_⟩, ?_⟩
        · intro p hp
          rcases List.mem_append.1 hp with hp | hp
          · rcases List.mem_append.1 hp with hp | hp
            · exact hI.lt p (by simp [hp])
            · rw [List.mem_singleton.1 hp]; exact ⟨hv, by simp; omega⟩
          · rw [List.mem_singleton.1 hp]; exact ⟨hc, by simp⟩
        · rw [List.map_append, ← hmp, ← List.append_assoc]
          refine List.nodup_append.2 ⟨hI.nd, by simp, ?_⟩
          intro a ha b hb2 e9
          rw [List.mem_singleton.1 hb2] at e9
          subst e9
          rcases List.mem_append.1 ha with h | h
          · exact hcn.1 h
          · exact hcn.2 (by rw [← hmp]; exact h)
        · intro j hj
          have key : (rho ++ [(v, k + 1)] ++ [(c', 0)]).map (fun p : Nat × Nat => p.1) = (rho ++ [(v, k)]).map (fun p : Nat × Nat => p.1) ++ [c'] := by simp
          rw [k4 j, Bool.or_eq_true, hI.seen j hj, key]
          simp only [List.mem_append, List.map_cons, List.map_nil, List.mem_singleton, decide_eq_true_eq]
          constructor
          · rintro ((h | h) | h)
            · exact .inl h
            · exact .inr (.inl h)
            · exact .inr (.inr h)
          · rintro (h | h | h)
            · exact .inl (.inl h)
            · exact .inl (.inr h)
            · exact .inr h
        · intro p hp z hz c2 hc2
          rcases List.mem_append.1 hp with hp | hp
          · rcases List.mem_append.1 hp with hp | hp
            · exact hup _ (hI.cnt p (by simp [hp]) z hz c2 hc2)
            · rw [List.mem_singleton.1 hp] at hz hc2
              simp only at hz hc2
              by_cases e : z = k
              · subst e; rw [hr] at hc2; have := Option.some.inj hc2
                have : c' = c2 := by omega
                subst this; exact hcs
              · exact hup _ (hI.cnt (v, k) (by simp) z (by simp only; omega) c2 hc2)
          · rw [List.mem_singleton.1 hp] at hz; simp at hz
        · intro i p q hp hq
          have key : ∀ (j : Nat) (x : Nat × Nat), j < rho.length + 1 → (rho ++ [(v, k + 1)] ++ [(c', 0)])[j]? = some x → ∃ y, (rho ++ [(v, k)])[j]? = some y ∧ y.1 = x.1 := by
            intro j x hj hx
            rw [List.getElem?_append_left (by simp; omega)] at hx
            by_cases hj : j < rho.length
            · rw [List.getElem?_append_left hj] at hx; exact ⟨x, by rw [List.getElem?_append_left hj]; exact hx, rfl⟩
            · have : j = rho.length := by omega
              subst this
              simp at hx; subst hx
              exact ⟨(v, k), by simp, rfl⟩
          have hq1 := (List.getElem?_eq_some_iff.1 hq).1
          by_cases hil : i + 1 < rho.length + 1
          · obtain ⟨p', h1, e1⟩ := key i p (by omega) hp
            obtain ⟨q', h2, e2⟩ := key (i + 1) q hil hq
            rw [← e1, ← e2]; exact hI.edge i p' q' h1 h2
          · have : i = rho.length := by simp at hq1; omega
            subst this
            have e1 : p = (v, k + 1) := by simpa using hp.symm
            have e2 : q = (c', 0) := by
              rw [List.getElem?_append_right (by simp)] at hq
              simpa using hq.symm
            subst e1; subst e2
            exact hE
        · rcases hI.bot with ⟨p, h1, h2⟩ | ⟨h1, _⟩
          · left
            by_cases hr0 : rho = []
            · subst hr0; simp at h1; subst h1; exact ⟨(v, k + 1), by simp, h2⟩
            · have hpos : 0 < rho.length := List.length_pos_iff.2 hr0
              rw [List.getElem?_append_left hpos] at h1
              exact ⟨p, by rw [List.append_assoc, List.getElem?_append_left hpos]; exact h1, h2⟩
          · simp at h1
        · intro x hx
          rcases hI.par x hx with h | ⟨p, hE', h⟩
          · exact .inl h
          · refine .inr ⟨p, hE', h.imp (fun h => ?_) id⟩
            rw [List.map_append, ← hmp]
            exact List.mem_append_left _ h
        · intro j hj hbj
          rw [k4 j, Bool.or_eq_true] at hbj
          rcases hbj with h | h
          · exact hI.rch j hj h
          · have : j = c' := by simpa using h
            subst this
            refine (hI.rch v hv ?_).snoc' hE
            exact (hI.seen v hv).2 (.inr (by simp))
        · have hcs2 := cS_add (w := fun j => (TT f j).length + 2) hb k4 f.blocks.length hc
          show cS _ _ _ + (((rho ++ [(v, k + 1)] ++ [(c', 0)]).map emb).map _).sum < cS _ _ _ + ((rho.map emb ++ [_]).map _).sum
          have e3 : (rho ++ [(v, k + 1)] ++ [(c', 0)]).map emb = (rho.map emb ++ [(⟨(v : Int), ((k + 1 : Nat) : Int)⟩ : A2 Int)]) ++ [(⟨(c' : Int), 0⟩ : A2 Int)] := by simp [emb]
          rw [e3, sum_snoc, sum_snoc, sum_snoc]
          simp at hcs2 ⊢
          omega
/-- What is known of the order in which blocks are left. -/
structure Post (f : Fnc) (w : List Nat) : Prop where
  nd : w.Nodup
  mem : ∀ j, j ∈ w ↔ PT f 0 j
  last : w.getLast? = some 0
  par : ∀ v ∈ w, v = 0 ∨ ∃ p, EE f p v ∧ Bef w v p
  ed : ∀ v ∈ w, ∀ c, EE f v c → Bef w c v ∨ PT f c v
include hn h2 in
theorem post_ok (hg : g.succ.length = f.blocks.length) (hf : 17592186044416 < fuel) (h0 : 0 < f.blocks.length) : ∃ w, p_graph_Graph_post fuel g = some (embN w) ∧ Post f w := by
  have hn1 := hn.1
  obtain ⟨s0, e0, hV0, hB0⟩ := new_ok (n := f.blocks.length) (by omega) fuel
  rcases add_ok hV0 (by omega) fuel 0 with ⟨_, k2⟩ | ⟨k, s1, k1, _, k3, k4, k5, k6⟩
  · have := k2 0 rfl h0
    rw [hB0] at this; cases this
  · have : k = 0 := by omega
    subst this
    have hI0 : PInv f [] [(0, 0)] s1 := by
      refine ⟨k5, ?_, by simp, by simp, ?_, ?_, ?_, .inl ⟨(0, 0), rfl, rfl⟩, by simp, by simp, by simp, ?_⟩
      · intro p hp; rw [List.mem_singleton.1 hp]; exact ⟨h0, by simp⟩
      · intro j hj; rw [k6 j, hB0 j]; simp
      · intro p hp z hz; rw [List.mem_singleton.1 hp] at hz; simp at hz
      · intro i p q hp hq
        have := (List.getElem?_eq_some_iff.1 hq).1
        simp at this
      · intro j hj h
        rw [k6 j, hB0 j] at h
        have : j = 0 := by simpa using h
        subst this; exact PT.refl _ _
    unfold p_graph_Graph_post p_graph_Graph_Len p_graph_Graph_post_1
    have ha : app [] [(⟨0, 0⟩ : A2 Int)] = some ([(0, 0)].map emb) := by rw [app_ok (by simp)]; rfl
    simp only [hg, Option.bind_some, e0, k4, if_true, ha]
    refine Or.elim (loopE_inv (fun q : List Int × List (A2 Int) × bits_Set => ∃ w st, q.1 = embN w ∧ q.2.1 = st.map emb ∧ PInv f w st q.2.2) (fun q => ∃ w s, q = (embN w, [], s) ∧ PInv f w [] s) (fun _ : List Int => False) (pm f)
      (fun s => p_graph_Graph_post_b1 fuel g s.1 s.2.1 s.2.2) ?_ fuel ([], [(0, 0)].map emb, s1) ⟨[], [(0, 0)], rfl, rfl, hI0⟩ ?_) ?_ ?_
    rotate_right
    · rintro ⟨v, _, h⟩; exact h.elim
    · rintro ⟨w, st, s⟩ ⟨w', st', rfl, rfl, hI⟩
      rcases post_step hn h2 (fuel := fuel) hI with ⟨w1, st1, s1, h1, h3, h4⟩ | ⟨rfl, h1⟩
      · exact .inl ⟨_, h1, ⟨w1, st1, rfl, rfl, h3⟩, h4⟩
      · exact .inr (.inl ⟨_, h1, w', s, rfl, hI⟩)
    · have hw : ∀ j, (TT f j).length + 2 ≤ 1048578 := fun j => by have := TT_len hn j; omega
      have h3 := cS_le (h := bH s1) hw f.blocks.length
      have h4 := TT_len hn 0
      show cS _ _ _ + _ < fuel
      simp [emb]
      have : f.blocks.length * 1048578 ≤ 1048576 * 1048578 := Nat.mul_le_mul_right _ hn1
      omega
    · rintro ⟨q, h1, w, s, rfl, hI⟩
      rw [h1]
      refine ⟨w, rfl, by simpa using hI.nd, ?_, ?_, ?_, hI.ed⟩
      · intro j
        constructor
        · intro h
          exact hI.rch j (hI.wlt j h) ((hI.seen j (hI.wlt j h)).2 (.inl h))
        · intro h
          refine Path.closed (C := fun j => j ∈ w) ?_ h ?_
          · intro a b ha hE _
            have hbl := TT_lt hn hE
            have := (hI.seen b hbl).1 (hI.cl a ha b hE)
            simpa using this
          · rcases hI.bot with ⟨p, h1, _⟩ | ⟨_, h1⟩
            · simp at h1
            · exact List.mem_of_getLast? h1
      · rcases hI.bot with ⟨p, h1, _⟩ | ⟨_, h1⟩
        · simp at h1
        · exact h1
      · intro v hv
        rcases hI.par v hv with h | ⟨p, hE, h⟩
        · exact .inl h
        · refine .inr ⟨p, hE, ?_⟩
          simpa using h
include hn h2 in
theorem order_ok (hg : g.succ.length = f.blocks.length) (hf : 17592186044416 < fuel) (h0 : 0 < f.blocks.length) : ∃ w, p_graph_Graph_Order fuel g = some (embN w.reverse) ∧ Post f w ∧ w.length ≤ f.blocks.length := by
  have hn1 := hn.1
  obtain ⟨w, h1, h3⟩ := post_ok hn h2 hg hf h0
  have hwl : w.length ≤ f.blocks.length := nodup_len _ w h3.nd fun x hx => by
    have := (h3.mem x).1 hx
    cases this with
    | one _ => exact h0
    | step a b c =>
      have h5 : ∀ {a b : Nat}, PT f a b → a < f.blocks.length → b < f.blocks.length := by
        intro a b h ha
        exact Path.closed (C := fun j => j < f.blocks.length) (fun a b _ hE _ => TT_lt hn hE) h ha
      exact h5 (a := 0) (.step a b c) h0
  refine ⟨w, ?_, h3, hwl⟩
  unfold p_graph_Graph_Order p_graph_Graph_Len
  have c0 : ¬ ((f.blocks.length : Int) = 0) := by omega
  have hr := reverse_ok (l := embN w) (by simp [embN]; omega) (fuel := fuel) (by omega)
  simp only [hg, Option.bind_some, c0, decide_false, Bool.false_eq_true, if_false, h1, hr]
  simp [embN]
include hn in
theorem gsucc_ok (hg : g.succ.length = f.blocks.length) (h2 : ∀ j : Nat, j < f.blocks.length → g.succ[j]? = some (TT f j)) {x : Nat} (hx : x < f.blocks.length) : p_graph_Graph_Succ fuel g x = some (TT f x) := by
  have hn1 := hn.1
  have hl := TT_len hn x
  have ha : app [] (TT f x) = some (TT f x) := by rw [app_ok (by simp; omega)]; rfl
  have c1 : ¬ ((x : Int) < 0) := by omega
  have c2 : ¬ ((f.blocks.length : Int) ≤ (x : Int)) := by omega
  simp [p_graph_Graph_Succ, p_graph_Graph_list, p_graph_Graph_Len, p_slices_Clone_int_int, ix2, A2.at, idx_nat (h2 x hx), ha, hg, c1, c2]
include hn in
theorem gpred_ok (hg : g.succ.length = f.blocks.length) (h3 : ∀ j : Nat, j < f.blocks.length → g.pred[j]? = some (PP f f.blocks.length j)) {x : Nat} (hx : x < f.blocks.length) : p_graph_Graph_Pred fuel g x = some (PP f f.blocks.length x) := by
  have hn1 := hn.1
  have hl := PP_len f f.blocks.length x
  have ha : app [] (PP f f.blocks.length x) = some (PP f f.blocks.length x) := by rw [app_ok (by simp; omega)]; rfl
  have c1 : ¬ ((x : Int) < 0) := by omega
  have c2 : ¬ ((f.blocks.length : Int) ≤ (x : Int)) := by omega
  simp [p_graph_Graph_Pred, p_graph_Graph_list, p_graph_Graph_Len, p_slices_Clone_int_int, ix2, A2.at, idx_nat (h3 x hx), ha, hg, c1, c2]
end post
end Go.Proofs.Ytodafoajkajnkaa.PL
set_option linter.unusedVariables false
set_option linter.unusedSimpArgs false
namespace Go.Proofs.Ytodafoajkajnkaa.PL
open Go

def u8 (z : Int) : Prop := 0 ≤ z ∧ z < 256
def rI (x : DIns) : Prop := u8 x.op ∧ u8 x.d ∧ u8 x.a ∧ u8 x.b
def rB (x : DBl) : Prop := (∀ y ∈ x.code, rI y) ∧ u8 x.term ∧ u8 x.a ∧ u8 x.b ∧ u8 x.v
def rD (x : Drf) : Prop := u8 x.g ∧ u8 x.x ∧ u8 x.params ∧ ∀ y ∈ x.blocks, rB y
theorem wrap_u8 (z : Int) : u8 (IntKind.wrap .u8 z) := by
  unfold u8
  simp [IntKind.wrap, IntKind.bits, IntKind.signed, IntKind.min, IntKind.max]
  omega
theorem tmod_r {a b : Int} (ha : 0 ≤ a) (hb : 0 < b) : 0 ≤ Int.tmod a b ∧ Int.tmod a b < b := by
  rw [Int.tmod_eq_emod_of_nonneg ha]
  exact ⟨Int.emod_nonneg _ (by omega), Int.emod_lt_of_pos _ hb⟩
theorem wrap8 {z : Int} (h : u8 z) : IntKind.wrap .i64 z = z := wrap_in (by have := h.1; omega) (by have := h.2; omega)
structure Mk (m : dyehouseref12_maker) (L : Nat) : Prop where
  a0 : 1 ≤ m.ids.a0.length ∧ m.ids.a0.length ≤ 6
  a1 : 1 ≤ m.ids.a1.length ∧ m.ids.a1.length ≤ 3
  has : m.has.length ≤ L
theorem Mk.at {m : dyehouseref12_maker} {L : Nat} (h : Mk m L) (c : Bool) : 1 ≤ (m.ids.at c).length ∧ (m.ids.at c).length ≤ 6 := by
  cases c
  · exact h.a0
  · have := h.a1; exact ⟨this.1, by show m.ids.a1.length ≤ 6; omega⟩
theorem Mk.mono {m : dyehouseref12_maker} {L L' : Nat} (h : Mk m L) (k : L ≤ L') : Mk m L' := ⟨h.a0, h.a1, by have := h.has; omega⟩
theorem pick_idx {l : List Int} (h : 1 ≤ l.length) (h6 : l.length ≤ 6) {k : Int} (hk : u8 k) : ∃ x1 x2, rem (IntKind.wrap .i64 k) (l.length : Int) = some x1 ∧ idx l x1 = some x2 ∧ x2 ∈ l := by
  obtain ⟨r0, r1⟩ := tmod_r hk.1 (show (0 : Int) < (l.length : Int) by omega)
  obtain ⟨n, hn⟩ := Int.eq_ofNat_of_zero_le r0
  obtain ⟨y, hy⟩ := getAt (xs := l) (i := n) (by omega)
  refine ⟨Int.tmod k (l.length : Int), y, ?_, ?_, List.mem_of_getElem? hy⟩
  · unfold rem
    rw [if_neg (by omega), wrap8 hk]
  · rw [hn]; exact idx_nat hy
theorem use_ok {m : dyehouseref12_maker} {L : Nat} (h : Mk m L) (hL : L ≤ 4000000) (fuel : Nat) (c : Bool) {k : Int} (hk : u8 k) : ∃ v, v ∈ m.ids.at c ∧ p_dyehouseref12_maker_use fuel m (if c = true then 1 else 0) k = some ⟨1, 0, v, 0⟩ := by
  obtain ⟨b1, b2⟩ := h.at c
  obtain ⟨x1, x2, e1, e2, e3⟩ := pick_idx b1 b2 hk
  obtain ⟨y, hy⟩ := getAt (xs := m.ids.at c) (i := 0) (by omega)
  have hc : ix2 (if c = true then 1 else 0) = some c := by cases c <;> rfl
  have hin := in_ref (l := m.has) (by have := h.has; omega) fuel x2
  have e0 : idx (m.ids.at c) 0 = some y := idx_nat (i := 0) hy
  unfold p_dyehouseref12_maker_use p_dyehouseref12_vreg
  simp only [hc, Option.bind_some, e1, e2, hin]
  by_cases hm : x2 ∈ m.has
  · exact ⟨x2, e3, by simp [hm]⟩
  · exact ⟨y, List.mem_of_getElem? hy, by simp [hm, e0]⟩
theorem give_ok {m : dyehouseref12_maker} {L : Nat} (h : Mk m L) (hL : L ≤ 4000000) (fuel : Nat) (c : Bool) {k : Int} (hk : u8 k) : ∃ v m', v ∈ m.ids.at c ∧ p_dyehouseref12_maker_give fuel m (if c = true then 1 else 0) k = some (⟨1, 0, v, 0⟩, m') ∧ Mk m' (L + 1) ∧ m'.f = m.f ∧ m'.ids = m.ids ∧ (∀ x, x ∈ m'.has ↔ x ∈ m.has ∨ x = v) := by
  obtain ⟨b1, b2⟩ := h.at c
  obtain ⟨x1, x2, e1, e2, e3⟩ := pick_idx b1 b2 hk
  have hc : ix2 (if c = true then 1 else 0) = some c := by cases c <;> rfl
  have hin := in_ref (l := m.has) (by have := h.has; omega) fuel x2
  have hh := h.has
  unfold p_dyehouseref12_maker_give p_dyehouseref12_vreg
  simp only [hc, Option.bind_some, e1, e2, hin]
  by_cases hm : x2 ∈ m.has
  · refine ⟨x2, ⟨m.f, m.ids, m.has⟩, e3, by simp [hm], ⟨h.a0, h.a1, by show m.has.length ≤ L + 1; omega⟩, rfl, rfl, fun x => ⟨.inl, fun q => q.elim id fun e => e ▸ hm⟩⟩
  · have ha : app m.has [x2] = some (m.has ++ [x2]) := app_ok (by simp; omega)
    refine ⟨x2, ⟨m.f, m.ids, m.has ++ [x2]⟩, e3, by simp [hm, ha], ⟨h.a0, h.a1, by simp; omega⟩, rfl, rfl, fun x => by simp⟩
/-- The name of a block. -/
def lab (i : Nat) : ByteArray := match i with
  | 0 => ⟨#[101, 110, 116, 114, 121]⟩
  | 1 => ⟨#[98, 49]⟩ | 2 => ⟨#[98, 50]⟩ | 3 => ⟨#[98, 51]⟩ | 4 => ⟨#[98, 52]⟩ | 5 => ⟨#[98, 53]⟩ | 6 => ⟨#[98, 54]⟩ | 7 => ⟨#[98, 55]⟩ | 8 => ⟨#[98, 56]⟩
  | _ => ⟨#[98, 57]⟩
theorem lab_inj : ∀ i, i < 10 → ∀ j, j < 10 → lab i = lab j → i = j := by decide +kernel
theorem label_all : ∀ i, i < 10 → ∀ fuel, p_dyehouseref12_label fuel (i : Nat) = some (lab i) := by
  intro i hi fuel
  have : i = 0 ∨ i = 1 ∨ i = 2 ∨ i = 3 ∨ i = 4 ∨ i = 5 ∨ i = 6 ∨ i = 7 ∨ i = 8 ∨ i = 9 := by omega
  rcases this with rfl | rfl | rfl | rfl | rfl | rfl | rfl | rfl | rfl | rfl <;> rfl
theorem goal_ok (fuel : Nat) {k : Int} (hk : u8 k) {n : Nat} (hn : 2 ≤ n) (hn9 : n ≤ 9) : ∃ j, 1 ≤ j ∧ j < n ∧ p_dyehouseref12_goal fuel k (n : Int) = some (lab j) := by
  obtain ⟨r0, r1⟩ := tmod_r hk.1 (show (0 : Int) < (n : Int) - 1 by omega)
  obtain ⟨q, hq⟩ := Int.eq_ofNat_of_zero_le r0
  refine ⟨1 + q, by omega, by omega, ?_⟩
  unfold p_dyehouseref12_goal rem
  rw [wrap8 hk, wrap_in (x := (n : Int) - 1) (by omega) (by omega), if_neg (by omega)]
  simp only [Option.bind_some, hq]
  rw [wrap_in (by omega) (by omega), show (1 : Int) + (q : Int) = ((1 + q : Nat) : Int) by omega, label_all (1 + q) (by omega)]
  rfl
/-- What is known of an instruction of a draft. -/
structure IOk (m : dyehouseref12_maker) (x : Ins) : Prop where
  labels : x.labels = []
  op : 1 ≤ x.op ∧ x.op ≤ 19
theorem instr_b1 {m : dyehouseref12_maker} {L : Nat} (h : Mk m L) (hL : L ≤ 4000000) (fuel : Nat) (d : DIns) (i : Int) {acc : List Opd} (ha : acc.length ≤ 100) : ∃ o, p_dyehouseref12_maker_instr_b1 fuel m d i acc = some (acc ++ [o]) := by
  unfold p_dyehouseref12_maker_instr_b1 p_dyehouseref12_imm
  by_cases c : Int.tmod (IntKind.wrap .i64 ((IntKind.wrap .i64 d.n) + i)) 3 = 0
  · have : app acc [(⟨4, 0, IntKind.wrap .i64 d.n, 0⟩ : Opd)] = some (acc ++ [⟨4, 0, IntKind.wrap .i64 d.n, 0⟩]) := app_ok (by simp; omega)
    exact ⟨_, by simp [c, this]; rfl⟩
  · obtain ⟨v, _, hv⟩ := use_ok h hL fuel false (wrap_u8 (d.a + (IntKind.wrap .u8 ((IntKind.wrap .u8 i) * d.b))))
    have hv' : p_dyehouseref12_maker_use fuel m 0 (IntKind.wrap .u8 (d.a + (IntKind.wrap .u8 ((IntKind.wrap .u8 i) * d.b)))) = some ⟨1, 0, v, 0⟩ := hv
    have : app acc [(⟨1, 0, v, 0⟩ : Opd)] = some (acc ++ [⟨1, 0, v, 0⟩]) := app_ok (by simp; omega)
    exact ⟨_, by simp [c, hv', this]; rfl⟩
theorem instr_ok {m : dyehouseref12_maker} {L : Nat} (h : Mk m L) (hL : L ≤ 4000000) (fuel : Nat) {d : DIns} (hd : rI d) : ∃ x m', p_dyehouseref12_maker_instr fuel m d = some (x, m') ∧ Mk m' (L + 1) ∧ m'.f = m.f ∧ m'.ids = m.ids ∧ x.labels = [] := by
  obtain ⟨hop, hdd, hda, hdb⟩ := hd
  obtain ⟨o0, o1⟩ := tmod_r hop.1 (show (0 : Int) < 19 by omega)
  have hopw : IntKind.wrap .i64 (1 + Int.tmod (IntKind.wrap .i64 d.op) 19) = 1 + Int.tmod d.op 19 := by rw [wrap8 hop]; exact wrap_in (by omega) (by omega)
  have b3 := tmod_r hdb.1 (show (0 : Int) < 3 by omega)
  have same : ∀ m, Mk m L → Mk m (L + 1) := fun m h => h.mono (by omega)
  have gv : ∀ (c : Bool) (k : Int), u8 k → ∃ v m', p_dyehouseref12_maker_give fuel m (if c = true then 1 else 0) k = some (⟨1, 0, v, 0⟩, m') ∧ Mk m' (L + 1) ∧ m'.f = m.f ∧ m'.ids = m.ids := fun c k hk => by
    obtain ⟨v, m', _, h1, h2, h3, h4, _⟩ := give_ok h hL fuel c hk
    exact ⟨v, m', h1, h2, h3, h4⟩
  have us : ∀ (c : Bool) (k : Int), u8 k → ∃ v, p_dyehouseref12_maker_use fuel m (if c = true then 1 else 0) k = some ⟨1, 0, v, 0⟩ := fun c k hk => by
    obtain ⟨v, _, h1⟩ := use_ok h hL fuel c hk
    exact ⟨v, h1⟩
  have us0 := fun k hk => us false k hk
  have us1 := fun k hk => us true k hk
  have gv0 := fun k hk => gv false k hk
  simp only [Bool.false_eq_true, if_false] at us0 gv0
  simp only [if_true] at us1
  unfold p_dyehouseref12_maker_instr
  simp only [hopw]
  by_cases c16 : 1 + Int.tmod d.op 19 = 16
  · simp only [c16, decide_true, if_true, p_dyehouseref12_imm, Option.bind_some]
    have hd2 := tmod_r hdd.1 (show (0 : Int) < 2 by omega)
    have hq : u8 (IntKind.wrap .u8 (Int.tdiv d.d 2)) := wrap_u8 _
    obtain ⟨v, m', g1, g2, g3, g4⟩ : ∃ v m', p_dyehouseref12_maker_give fuel m (Int.tmod (IntKind.wrap .i64 d.d) 2) (IntKind.wrap .u8 (Int.tdiv d.d 2)) = some (⟨1, 0, v, 0⟩, m') ∧ Mk m' (L + 1) ∧ m'.f = m.f ∧ m'.ids = m.ids := by
      rw [wrap8 hdd]
      have : Int.tmod d.d 2 = 0 ∨ Int.tmod d.d 2 = 1 := by omega
      rcases this with e | e
      · rw [e]; exact gv false _ hq
      · rw [e]; exact gv true _ hq
    by_cases cb : 0 < Int.tmod d.b 3
    · obtain ⟨u, hu⟩ : ∃ u, p_dyehouseref12_maker_use fuel m (IntKind.wrap .i64 ((IntKind.wrap .i64 (Int.tmod d.b 3)) - 1)) d.a = some ⟨1, 0, u, 0⟩ := by
        rw [wrap_in (x := Int.tmod d.b 3) (by omega) (by omega), wrap_in (by omega) (by omega)]
        have : Int.tmod d.b 3 - 1 = 0 ∨ Int.tmod d.b 3 - 1 = 1 := by omega
        rcases this with e | e
        · rw [e]; exact us false _ hda
        · rw [e]; exact us true _ hda
      simp only [cb, decide_true, if_true, hu, Option.bind_some, idx, setI, g1]
      exact ⟨_, _, rfl, g2, g3, g4, rfl⟩
    · simp only [cb, decide_false, Bool.false_eq_true, if_false, Option.bind_some, g1]
      exact ⟨_, _, rfl, g2, g3, g4, rfl⟩
  · simp only [c16, decide_false, Bool.false_eq_true, if_false]
    by_cases c17 : 1 + Int.tmod d.op 19 = 17
    · obtain ⟨u, hu⟩ := us1 _ hda
      obtain ⟨v, m', g1, g2, g3, g4⟩ := gv0 _ hdd
      simp only [c17, decide_true, if_true, hu, g1, Option.bind_some]
      exact ⟨_, _, rfl, g2, g3, g4, rfl⟩
    · simp only [c17, decide_false, Bool.false_eq_true, if_false]
      by_cases c18 : 1 + Int.tmod d.op 19 = 18
      · obtain ⟨u, hu⟩ := us1 _ hda
        obtain ⟨v, hv⟩ := us0 _ hdb
        simp only [c18, decide_true, if_true, hu, hv, Option.bind_some]
        exact ⟨_, _, rfl, same _ h, rfl, rfl, rfl⟩
      · simp only [c18, decide_false, Bool.false_eq_true, if_false]
        by_cases c19 : 1 + Int.tmod d.op 19 = 19
        · have ha3 := tmod_r hda.1 (show (0 : Int) < 3 by omega)
          have hb4 := tmod_r hdb.1 (show (0 : Int) < 4 by omega)
          obtain ⟨n3, hn3⟩ := Int.eq_ofNat_of_zero_le ha3.1
          obtain ⟨n4, hn4⟩ := Int.eq_ofNat_of_zero_le hb4.1
          obtain ⟨nm, hnm⟩ := getAt (xs := ([(⟨#[102]⟩ : ByteArray), (⟨#[103]⟩ : ByteArray), (⟨#[112, 117, 116, 10]⟩ : ByteArray)] : List ByteArray)) (i := n3) (by simp; omega)
          obtain ⟨s, h1, h2⟩ := toN_inv (fun i (s : List Opd) => s.length = i) (fun i s => p_dyehouseref12_maker_instr_b1 fuel m d i s) n4 (by omega) (s := []) rfl (by
            intro i s hi hs
            obtain ⟨o, ho⟩ := instr_b1 h hL fuel d i (acc := s) (by omega)
            exact ⟨_, ho, by simp [hs]⟩)
          simp only [c19, decide_true, if_true]
          rw [wrap8 hda, wrap8 hdb, hn3, hn4, idx_nat hnm]
          simp only [Option.bind_some, h1]
          by_cases cd : 0 < Int.tmod d.d 3
          · obtain ⟨v, m', g1, g2, g3, g4⟩ := gv0 _ hdd
            simp only [cd, decide_true, if_true, g1, Option.bind_some]
            exact ⟨_, _, rfl, g2, g3, g4, rfl⟩
          · simp only [cd, decide_false, Bool.false_eq_true, if_false, Option.bind_some]
            exact ⟨_, _, rfl, same _ h, rfl, rfl, rfl⟩
        · simp only [c19, decide_false, Bool.false_eq_true, if_false]
          obtain ⟨u, hu⟩ := us0 _ hda
          obtain ⟨v, m', g1, g2, g3, g4⟩ := gv0 _ hdd
          simp only [hu, p_dyehouseref12_imm, Option.bind_some]
          by_cases cb : 0 < Int.tmod d.b 3
          · obtain ⟨w, hw⟩ := us0 _ hdb
            simp only [cb, decide_true, if_true, hw, Option.bind_some, idx, setI, g1]
            exact ⟨_, _, rfl, g2, g3, g4, rfl⟩
          · simp only [cb, decide_false, Bool.false_eq_true, if_false, Option.bind_some, g1]
            exact ⟨_, _, rfl, g2, g3, g4, rfl⟩
/-- How a block ends. -/
structure LOk (n i : Nat) (x : Ins) : Prop where
  op : 20 ≤ x.op ∧ x.op ≤ 23
  len : x.labels.length ≤ 3
  to : ∀ l ∈ x.labels, ∃ j, 1 ≤ j ∧ j < n ∧ l = lab j
  next : i + 1 < n → lab (i + 1) ∈ x.labels
theorem last_ok' {m : dyehouseref12_maker} {L : Nat} (h : Mk m L) (hL : L ≤ 4000000) (fuel : Nat) {b : DBl} (hb : rB b) {n i : Nat} (hn : 1 ≤ n) (hn9 : n ≤ 9) (hi : i < n) : ∃ x, p_dyehouseref12_maker_last_v2 fuel m b (i : Int) (n : Int) = some x ∧ LOk n i x := by
  obtain ⟨_, ht, hba, hbb, hbv⟩ := hb
  obtain ⟨v, _, hv⟩ := use_ok h hL fuel false hbv
  simp only [Bool.false_eq_true, if_false] at hv
  unfold p_dyehouseref12_maker_last_v2
  rw [hv, wrap_in (x := (n : Int) - 1) (by omega) (by omega), wrap_in (x := (i : Int) + 1) (by omega) (by omega)]
  simp only [Option.bind_some]
  by_cases c1 : ((decide ((n : Int) = 1)) || ((decide ((i : Int) = (n : Int) - 1)) && (decide ((Int.tmod b.term 3) = 0)))) = true
  · rw [if_pos c1]
    have hlast : ¬ (i + 1 < n) := by
      simp at c1
      omega
    by_cases c2 : Int.tmod b.v 7 = 6
    · simp only [c2, decide_true, if_true, p_dyehouseref12_imm, Option.bind_some]
      exact ⟨_, rfl, ⟨by simp, by simp, by simp, fun q => absurd q hlast⟩⟩
    · simp only [c2, decide_false, Bool.false_eq_true, if_false, Option.bind_some]
      exact ⟨_, rfl, ⟨by simp, by simp, by simp, fun q => absurd q hlast⟩⟩
  · rw [if_neg c1]
    have hn2 : 2 ≤ n := by
      simp at c1
      omega
    obtain ⟨ja, a1, a2, ha⟩ := goal_ok fuel hba hn2 hn9
    obtain ⟨jb, b1, b2, hbg⟩ := goal_ok fuel hbb hn2 hn9
    obtain ⟨jn, n1, n2, hnx, hn0⟩ : ∃ jn, 1 ≤ jn ∧ jn < n ∧ (if decide ((i : Int) < (n : Int) - 1) = true then (p_dyehouseref12_label fuel ((i : Int) + 1)).bind fun r4 => some r4 else some (lab ja)) = some (lab jn) ∧ (i + 1 < n → jn = i + 1) := by
      by_cases c : i + 1 < n
      · refine ⟨i + 1, by omega, c, ?_, fun _ => rfl⟩
        rw [if_pos (by simp; omega), show (i : Int) + 1 = ((i + 1 : Nat) : Int) by omega, label_all (i + 1) (by omega)]
        rfl
      · exact ⟨ja, a1, a2, by rw [if_neg (by simp; omega)], fun q => absurd q c⟩
    simp only [ha, Option.bind_some, hnx, hbg]
    have to2 : ∀ l ∈ [lab jn, lab jb], ∃ j, 1 ≤ j ∧ j < n ∧ l = lab j := by
      intro l hl
      simp at hl
      rcases hl with rfl | rfl
      · exact ⟨jn, n1, n2, rfl⟩
      · exact ⟨jb, b1, b2, rfl⟩
    have nx : ∀ l : List ByteArray, lab jn ∈ l → (i + 1 < n → lab (i + 1) ∈ l) := fun l hl q => by rw [← hn0 q]; exact hl
    have fin : ∀ (x : Ins), (20 ≤ x.op ∧ x.op ≤ 23) → x.labels.length ≤ 3 → (∀ l ∈ x.labels, l = lab ja ∨ l = lab jb ∨ l = lab jn) → lab jn ∈ x.labels → LOk n i x := fun x h1 h2 h3 h4 =>
      ⟨h1, h2, fun l hl => by
        rcases h3 l hl with e | e | e
        · exact ⟨ja, a1, a2, e⟩
        · exact ⟨jb, b1, b2, e⟩
        · exact ⟨jn, n1, n2, e⟩, nx _ h4⟩
    by_cases t0 : Int.tmod b.term 4 = 0
    · simp only [t0, decide_true, if_true, Option.bind_some]
      by_cases t8 : Int.tmod b.term 8 < 4
      · simp only [t8, decide_true, if_true, bindE]
        exact ⟨_, rfl, fin _ (by simp) (by simp) (by simp) (by simp)⟩
      · simp only [t8, decide_false, Bool.false_eq_true, if_false, bindE]
        exact ⟨_, rfl, fin _ (by simp) (by simp) (by simp) (by simp)⟩
    · simp only [t0, decide_false, Bool.false_eq_true, if_false, Option.bind_some]
      by_cases t1 : Int.tmod b.term 4 = 1
      · simp only [t1, decide_true, if_true]
        by_cases t8 : Int.tmod b.term 8 < 4
        · simp only [t8, decide_true, if_true, bindE]
          exact ⟨_, rfl, fin _ (by simp) (by simp) (by simp) (by simp)⟩
        · simp only [t8, decide_false, Bool.false_eq_true, if_false, bindE]
          exact ⟨_, rfl, fin _ (by simp) (by simp) (by simp) (by simp)⟩
      · simp only [t1, decide_false, Bool.false_eq_true, if_false]
        by_cases t2 : Int.tmod b.term 4 = 2
        · simp only [t2, decide_true, if_true]
          by_cases v2 : Int.tmod b.v 2 = 0
          · simp only [v2, decide_true, if_true, sli, bindE]
            exact ⟨_, rfl, fin _ (by simp) (by simp) (by simp) (by simp)⟩
          · simp only [v2, decide_false, Bool.false_eq_true, if_false, Option.bind_some, bindE]
            exact ⟨_, rfl, fin _ (by simp) (by simp) (by simp) (by simp)⟩
        · simp only [t2, decide_false, Bool.false_eq_true, if_false, bindE]
          exact ⟨_, rfl, fin _ (by simp) (by simp) (by simp) (by simp)⟩
end Go.Proofs.Ytodafoajkajnkaa.PL
set_option linter.unusedVariables false
set_option linter.unusedSimpArgs false
namespace Go.Proofs.Ytodafoajkajnkaa.PL
open Go

def cntG (d : Drf) : Nat := 1 + d.g.toNat % 6
def cntX (d : Drf) : Nat := 1 + d.x.toNat % 3
def idsG (n : Nat) : List Int := (List.range n).map fun (i : Nat) => 2 * (i : Int)
def idsX (n : Nat) : List Int := (List.range n).map fun (i : Nat) => 2 * (i : Int) + 1
theorem cnt_w {z : Int} (h : u8 z) {k : Nat} (hk : 0 < k) (hk6 : k ≤ 6) : IntKind.wrap .i64 (1 + Int.tmod (IntKind.wrap .i64 z) (k : Int)) = ((1 + z.toNat % k : Nat) : Int) := by
  obtain ⟨a, rfl⟩ := Int.eq_ofNat_of_zero_le h.1
  have : Int.tmod (a : Int) (k : Int) = ((a % k : Nat) : Int) := by rw [Int.tmod_eq_emod_of_nonneg (by omega)]; omega
  have h2 : a % k < k := Nat.mod_lt _ hk
  rw [wrap8 h, this, wrap_in (by omega) (by omega)]
  simp
theorem make_b1_0 {d : Drf} (h : rD d) {fuel : Nat} (hf : 20 < fuel) : p_dyehouseref12_Make_b1 fuel d 0 [] [] = some (idsG (cntG d), []) := by
  have hg := cnt_w h.1 (k := 6) (by decide) (by decide)
  have hg6 : d.g.toNat % 6 < 6 := Nat.mod_lt _ (by decide)
  unfold p_dyehouseref12_Make_b1
  refine Or.elim (loopE_inv (fun s : List Int × List Int × Int => ∃ k : Nat, s.2.2 = k ∧ k ≤ cntG d ∧ s.1 = idsG k ∧ s.2.1 = []) (fun s => s.1 = idsG (cntG d) ∧ s.2.1 = []) (fun _ : List Int × List Int => False) (fun s => cntG d - s.2.2.toNat)
    (fun s => p_dyehouseref12_Make_b2 fuel d 0 s.1 s.2.1 s.2.2) ?_ fuel ([], [], 0) ⟨0, rfl, by omega, rfl, rfl⟩ (by simp [cntG]; omega)) ?_ ?_
  rotate_left
  · rintro ⟨⟨a, b, c⟩, h1, h2, h3⟩
    simp only at h2 h3
    subst h2; subst h3
    rw [h1]; rfl
  · rintro ⟨v, _, h⟩; exact h.elim
  · rintro ⟨a, b, c⟩ ⟨k, hc, hk, ha, hb⟩
    simp only at hc ha hb
    subst hc; subst ha; subst hb
    have hl : (idsG k).length = k := by simp [idsG]
    show (∃ s', p_dyehouseref12_Make_b2 fuel d 0 (idsG k) [] (k : Int) = some (.n s') ∧ _) ∨ (∃ s', p_dyehouseref12_Make_b2 fuel d 0 (idsG k) [] (k : Int) = some (.b s') ∧ _) ∨ _
    unfold p_dyehouseref12_Make_b2
    have e0 : ix2 0 = some false := rfl
    simp only [e0, Option.bind_some, A2.at, Bool.false_eq_true, if_false]
    rw [show ((6 : Nat) : Int) = 6 from rfl] at hg
    rw [hg]
    unfold cntG at hk ⊢
    by_cases c : k < 1 + d.g.toNat % 6
    · left
      have hw1 : IntKind.wrap .i64 (2 * (k : Int)) = 2 * (k : Int) := wrap_in (by omega) (by omega)
      have hw2 : IntKind.wrap .i64 (2 * (k : Int) + 0) = 2 * (k : Int) := by rw [Int.add_zero]; exact hw1
      have ha : app (idsG k) [2 * (k : Int)] = some (idsG (k + 1)) := by rw [app_ok (by simp [hl]; omega)]; simp [idsG, List.range_succ]
      have hlt : ((k : Int) < ((1 + d.g.toNat % 6 : Nat) : Int)) := by omega
      simp only [hlt, decide_true, if_true, hw1, hw2, ha, Option.bind_some, wrap1 (show k ≤ 4294967296 by omega)]
      exact ⟨_, rfl, ⟨k + 1, rfl, by omega, rfl, rfl⟩, by show _ - ((k + 1 : Nat) : Int).toNat < _ - ((k : Nat) : Int).toNat; omega⟩
    · right; left
      have hlt : ¬ ((k : Int) < ((1 + d.g.toNat % 6 : Nat) : Int)) := by omega
      simp only [hlt, decide_false, Bool.false_eq_true, if_false]
      have : k = 1 + d.g.toNat % 6 := by omega
      subst this
      exact ⟨_, rfl, rfl, rfl⟩
theorem make_b1_1 {d : Drf} (h : rD d) {fuel : Nat} (hf : 20 < fuel) (l : List Int) : p_dyehouseref12_Make_b1 fuel d 1 l [] = some (l, idsX (cntX d)) := by
  have hg := cnt_w h.2.1 (k := 3) (by decide) (by decide)
  have hg6 : d.x.toNat % 3 < 3 := Nat.mod_lt _ (by decide)
  unfold p_dyehouseref12_Make_b1
  refine Or.elim (loopE_inv (fun s : List Int × List Int × Int => ∃ k : Nat, s.2.2 = k ∧ k ≤ cntX d ∧ s.1 = l ∧ s.2.1 = idsX k) (fun s => s.1 = l ∧ s.2.1 = idsX (cntX d)) (fun _ : List Int × List Int => False) (fun s => cntX d - s.2.2.toNat)
    (fun s => p_dyehouseref12_Make_b2 fuel d 1 s.1 s.2.1 s.2.2) ?_ fuel (l, [], 0) ⟨0, rfl, by omega, rfl, rfl⟩ (by simp [cntX]; omega)) ?_ ?_
  rotate_left
  · rintro ⟨⟨a, b, c⟩, h1, h2, h3⟩
    simp only at h2 h3
    subst h2; subst h3
    rw [h1]; rfl
  · rintro ⟨v, _, h⟩; exact h.elim
  · rintro ⟨a, b, c⟩ ⟨k, hc, hk, ha, hb⟩
    simp only at hc ha hb
    subst hc; subst ha; subst hb
    have hl : (idsX k).length = k := by simp [idsX]
    show (∃ s', p_dyehouseref12_Make_b2 fuel d 1 _ (idsX k) (k : Int) = some (.n s') ∧ _) ∨ (∃ s', p_dyehouseref12_Make_b2 fuel d 1 _ (idsX k) (k : Int) = some (.b s') ∧ _) ∨ _
    unfold p_dyehouseref12_Make_b2
    have e0 : ix2 1 = some true := rfl
    simp only [e0, Option.bind_some, A2.at, if_true]
    rw [show ((3 : Nat) : Int) = 3 from rfl] at hg
    rw [hg]
    unfold cntX at hk ⊢
    by_cases c : k < 1 + d.x.toNat % 3
    · left
      have hw1 : IntKind.wrap .i64 (2 * (k : Int)) = 2 * (k : Int) := wrap_in (by omega) (by omega)
      have hw2 : IntKind.wrap .i64 (2 * (k : Int) + 1) = 2 * (k : Int) + 1 := wrap_in (by omega) (by omega)
      have ha : app (idsX k) [2 * (k : Int) + 1] = some (idsX (k + 1)) := by rw [app_ok (by simp [hl]; omega)]; simp [idsX, List.range_succ]
      have hlt : ((k : Int) < ((1 + d.x.toNat % 3 : Nat) : Int)) := by omega
      simp only [hlt, decide_true, if_true, hw1, hw2, ha, Option.bind_some, wrap1 (show k ≤ 4294967296 by omega)]
      exact ⟨_, rfl, ⟨k + 1, rfl, by omega, rfl, rfl⟩, by show _ - ((k + 1 : Nat) : Int).toNat < _ - ((k : Nat) : Int).toNat; omega⟩
    · right; left
      have hlt : ¬ ((k : Int) < ((1 + d.x.toNat % 3 : Nat) : Int)) := by omega
      simp only [hlt, decide_false, Bool.false_eq_true, if_false]
      have : k = 1 + d.x.toNat % 3 := by omega
      subst this
      exact ⟨_, rfl, rfl, rfl⟩
/-- The registers of a draft. -/
def rgs (d : Drf) (n : Nat) : List Rg := ((List.range n).filter fun i => decide (i / 2 < if i % 2 = 0 then cntG d else cntX d)).map fun (i : Nat) => ⟨(i : Int), ((i % 2 : Nat) : Int)⟩
theorem rgs_len (d : Drf) (n : Nat) : (rgs d n).length ≤ n := by
  unfold rgs
  rw [List.length_map]
  exact Nat.le_trans (List.length_filter_le _ _) (by simp)
theorem make_b3 {d : Drf} (h : rD d) (fuel : Nat) {i : Nat} (hi : i < 12) : p_dyehouseref12_Make_b3 fuel d i (rgs d i) = some (rgs d (i + 1)) := by
  have hg := cnt_w h.1 (k := 6) (by decide) (by decide)
  have hx := cnt_w h.2.1 (k := 3) (by decide) (by decide)
  rw [show ((6 : Nat) : Int) = 6 from rfl] at hg
  rw [show ((3 : Nat) : Int) = 3 from rfl] at hx
  have hl := rgs_len d i
  have ht : Int.tmod (i : Int) 2 = ((i % 2 : Nat) : Int) := by rw [Int.tmod_eq_emod_of_nonneg (by omega)]; omega
  have hd : IntKind.wrap .i64 (Int.tdiv (i : Int) 2) = ((i / 2 : Nat) : Int) := by rw [Int.tdiv_eq_ediv_of_nonneg (by omega), wrap_in (by omega) (by omega)]; omega
  have hc : ix2 ((i % 2 : Nat) : Int) = some (decide (i % 2 = 1)) := by
    have : i % 2 = 0 ∨ i % 2 = 1 := by omega
    rcases this with e | e <;> rw [e] <;> rfl
  have hnext : rgs d (i + 1) = rgs d i ++ if i / 2 < (if i % 2 = 0 then cntG d else cntX d) then [⟨(i : Int), ((i % 2 : Nat) : Int)⟩] else [] := by
    unfold rgs
    rw [List.range_succ, List.filter_append, List.map_append]
    congr 1
    by_cases c : i / 2 < (if i % 2 = 0 then cntG d else cntX d) <;> simp [c]
  have hat : (⟨IntKind.wrap .i64 (1 + Int.tmod (IntKind.wrap .i64 d.g) 6), IntKind.wrap .i64 (1 + Int.tmod (IntKind.wrap .i64 d.x) 3)⟩ : A2 Int).at (decide (i % 2 = 1)) = (((if i % 2 = 0 then cntG d else cntX d) : Nat) : Int) := by
    rw [hg, hx]
    have : i % 2 = 0 ∨ i % 2 = 1 := by omega
    rcases this with e | e <;> simp [e, A2.at, cntG, cntX]
  have ha : app (rgs d i) [(⟨(i : Int), ((i % 2 : Nat) : Int)⟩ : Rg)] = some (rgs d i ++ [⟨(i : Int), ((i % 2 : Nat) : Int)⟩]) := app_ok (by simp; omega)
  unfold p_dyehouseref12_Make_b3
  rw [ht, hd, hc]
  simp only [Option.bind_some, hat]
  rw [hnext]
  by_cases c : i / 2 < (if i % 2 = 0 then cntG d else cntX d)
  · have : (((i / 2 : Nat) : Int) < (((if i % 2 = 0 then cntG d else cntX d) : Nat) : Int)) := by omega
    simp only [this, decide_true, if_true, ha, Option.bind_some, c]
  · have : ¬ (((i / 2 : Nat) : Int) < (((if i % 2 = 0 then cntG d else cntX d) : Nat) : Int)) := by omega
    simp only [this, decide_false, Bool.false_eq_true, if_false, c, List.append_nil]
theorem make_b4 {d : Drf} (h : rD d) {fuel : Nat} (hf : 20 < fuel) {l : List Rg} (hl : l.length ≤ 12) : ∃ i a b c, loopE fuel (fun s => p_dyehouseref12_Make_b4 fuel d l s.1 s.2.1 s.2.2.1 s.2.2.2) (0, ([] : List Opd), ([] : List Int), ([] : List Ins)) = some (.n (i, a, b, c)) ∧ b.length ≤ 12 ∧ c.length ≤ 12 ∧ ∀ y ∈ c, y.labels = [] := by
  refine Or.elim (loopE_inv (fun s : Int × List Opd × List Int × List Ins => ∃ k : Nat, s.1 = k ∧ k ≤ l.length ∧ s.2.1.length ≤ k ∧ s.2.2.1.length ≤ k ∧ s.2.2.2.length ≤ k ∧ ∀ y ∈ s.2.2.2, y.labels = []) (fun s => s.2.2.1.length ≤ 12 ∧ s.2.2.2.length ≤ 12 ∧ ∀ y ∈ s.2.2.2, y.labels = []) (fun _ : Fnc => False) (fun s => l.length - s.1.toNat)
    (fun s => p_dyehouseref12_Make_b4 fuel d l s.1 s.2.1 s.2.2.1 s.2.2.2) ?_ fuel (0, [], [], []) ⟨0, rfl, by omega, by simp, by simp, by simp, by simp⟩ (by simp; omega)) ?_ ?_
  rotate_left
  · rintro ⟨⟨a, b, c, e⟩, h1, h2⟩
    exact ⟨a, b, c, e, h1, h2⟩
  · rintro ⟨v, _, h⟩; exact h.elim
  · rintro ⟨i, a, b, c⟩ ⟨k, hi, hk, ha, hb, hc, hy⟩
    simp only at hi ha hb hc hy
    subst hi
    show (∃ s', p_dyehouseref12_Make_b4 fuel d l (k : Int) a b c = some (.n s') ∧ _) ∨ (∃ s', p_dyehouseref12_Make_b4 fuel d l (k : Int) a b c = some (.b s') ∧ _) ∨ _
    unfold p_dyehouseref12_Make_b4
    by_cases hlt : k < l.length
    · left
      obtain ⟨x, hx⟩ := getAt hlt
      have hlt' : (k : Int) < (l.length : Int) := by omega
      have hr : rem (IntKind.wrap .i64 d.params) (IntKind.wrap .i64 ((l.length : Int) + 1)) = some (Int.tmod d.params ((l.length : Int) + 1)) := by
        unfold rem
        rw [wrap8 h.2.2.1, wrap_in (x := (l.length : Int) + 1) (by omega) (by omega), if_neg (by omega)]
      have hm : ∀ k' : Nat, k' = k + 1 → l.length - ((k' : Nat) : Int).toNat < l.length - ((k : Nat) : Int).toNat := by intro k' e; omega
      have a1 : app a [(⟨1, 0, x.id, 0⟩ : Opd)] = some (a ++ [⟨1, 0, x.id, 0⟩]) := app_ok (by simp; omega)
      have a2 : app b [x.id] = some (b ++ [x.id]) := app_ok (by simp; omega)
      have a3 : app c [(⟨16, ⟨1, 0, x.id, 0⟩, [⟨4, 0, IntKind.wrap .i64 (3 * x.id), 0⟩], (⟨#[]⟩ : ByteArray), 0, [], []⟩ : Ins)] = some (c ++ [⟨16, ⟨1, 0, x.id, 0⟩, [⟨4, 0, IntKind.wrap .i64 (3 * x.id), 0⟩], (⟨#[]⟩ : ByteArray), 0, [], []⟩]) := app_ok (by simp; omega)
      simp only [hlt', decide_true, if_true, idx_nat hx, Option.bind_some, hr, p_dyehouseref12_vreg, p_dyehouseref12_imm]
      by_cases c1 : (k : Int) < Int.tmod d.params ((l.length : Int) + 1)
      · simp only [c1, decide_true, if_true, a1, a2, Option.bind_some, wrap1 (show k ≤ 4294967296 by omega)]
        exact ⟨_, rfl, ⟨k + 1, rfl, by omega, by simp; omega, by simp; omega, by show c.length ≤ k + 1; omega, hy⟩, hm _ rfl⟩
      · simp only [c1, decide_false, Bool.false_eq_true, if_false]
        by_cases c2 : ((decide ((k : Int) < 2)) || (decide ((IntKind.wrap .i64 ((k : Int) + 2)) < (l.length : Int)))) = true
        · simp only [c2, if_true, a3, a2, Option.bind_some, wrap1 (show k ≤ 4294967296 by omega)]
          exact ⟨_, rfl, ⟨k + 1, rfl, by omega, by show a.length ≤ k + 1; omega, by simp; omega, by simp; omega, by
            intro y hy'
            rcases List.mem_append.1 hy' with h | h
            · exact hy y h
            · rw [List.mem_singleton.1 h]⟩, hm _ rfl⟩
        · rw [if_neg c2]
          simp only [Option.bind_some, wrap1 (show k ≤ 4294967296 by omega)]
          exact ⟨_, rfl, ⟨k + 1, rfl, by omega, by show a.length ≤ k + 1; omega, by show b.length ≤ k + 1; omega, by show c.length ≤ k + 1; omega, hy⟩, hm _ rfl⟩
    · right; left
      have hlt' : ¬ ((k : Int) < (l.length : Int)) := by omega
      simp only [hlt', decide_false, Bool.false_eq_true, if_false]
      exact ⟨_, rfl, by show b.length ≤ 12; omega, by show c.length ≤ 12; omega, hy⟩
/-- A block of a function that is made. -/
structure BOk (n i : Nat) (b : Bl) : Prop where
  label : b.label = lab i
  len : b.code.length ≤ 1000013
  last : ∃ x, b.code[b.code.length - 1]? = some x ∧ LOk n i x
  labels : ∀ y ∈ b.code, y.labels.length ≤ 3
structure MOk (n : Nat) (f : Fnc) : Prop where
  len : f.blocks.length = n
  blk : ∀ (i : Nat) b, f.blocks[i]? = some b → BOk n i b
theorem make_ok {d : Drf} (h : rD d) (h9 : d.blocks.length ≤ 9) (hc : ∀ b ∈ d.blocks, b.code.length ≤ 1000000) {fuel : Nat} (hf : 20 < fuel) : ∃ f, p_dyehouseref12_Make fuel d = some f ∧ MOk (max d.blocks.length 1) f := by
  have e1 : toN 0 2 (fun i s => p_dyehouseref12_Make_b1 fuel d i s.1 s.2) (([] : List Int), ([] : List Int)) = some (idsG (cntG d), idsX (cntX d)) := by
    have b0 := make_b1_0 h hf
    have b1 := make_b1_1 h hf (idsG (cntG d))
    unfold toN
    rw [if_pos (by decide), show ((2 : Int) - 0).toNat = 2 from rfl]
    simp only [forN, b0, Option.bind_some]
    rw [show (0 : Int) + 1 = 1 from rfl, b1]
    rfl
  obtain ⟨rg, e2, e3⟩ := toN_inv (fun i (s : List Rg) => s = rgs d i) (fun i s => p_dyehouseref12_Make_b3 fuel d i s) 12 (by omega) (s := []) rfl (by
    rintro i s hi rfl
    exact ⟨_, make_b3 h fuel hi, rfl⟩)
  subst e3
  obtain ⟨i4, a4, b4, c4, e4, l4, l5, l6⟩ := make_b4 h hf (l := rgs d 12) (rgs_len d 12)
  have ha : app ([] : List Int) b4 = some b4 := by rw [app_ok (by simp; omega)]; rfl
  have hn : (if 1 > (d.blocks.length : Int) then 1 else (d.blocks.length : Int)) = ((max d.blocks.length 1 : Nat) : Int) := by
    split <;> omega
  have hn1 : 1 ≤ max d.blocks.length 1 := by omega
  have hn9 : max d.blocks.length 1 ≤ 9 := by omega
  have hcg : 1 ≤ cntG d ∧ cntG d ≤ 6 := by unfold cntG; have : d.g.toNat % 6 < 6 := Nat.mod_lt _ (by decide); omega
  have hcx : 1 ≤ cntX d ∧ cntX d ≤ 3 := by unfold cntX; have : d.x.toNat % 3 < 3 := Nat.mod_lt _ (by decide); omega
  generalize hN : max d.blocks.length 1 = n at *
  obtain ⟨s, e5, e6⟩ := toN_inv (fun i (s : Bool × ByteArray × (List Rg) × (List Opd) × (List Bl) × (List Int) × (List Int) × (List Int) × (List Ins)) =>
      s.2.2.2.2.1.length = i ∧ (∀ (j : Nat) b, s.2.2.2.2.1[j]? = some b → BOk n j b) ∧ s.2.2.2.2.2.1 = idsG (cntG d) ∧ s.2.2.2.2.2.2.1 = idsX (cntX d) ∧ s.2.2.2.2.2.2.2.2.length ≤ 12 ∧ ∀ y ∈ s.2.2.2.2.2.2.2.2, y.labels = [])
    (fun i s => p_dyehouseref12_Make_b5 fuel d b4 i s.1 s.2.1 s.2.2.1 s.2.2.2.1 s.2.2.2.2.1 s.2.2.2.2.2.1 s.2.2.2.2.2.2.1 s.2.2.2.2.2.2.2.1 s.2.2.2.2.2.2.2.2) n (by omega) (s := (false, (⟨#[102]⟩ : ByteArray), rgs d 12, a4, ([] : List Bl), idsG (cntG d), idsX (cntX d), b4, c4))
    ⟨rfl, by simp, rfl, rfl, l5, l6⟩ (by
    rintro i ⟨m0, nm, rg, pa, bs, g, x, hs, cd⟩ hi ⟨k1, k2, k3, k4, k5, k6⟩
    simp only at k1 k2 k3 k4 k5 k6
    subst k3; subst k4
    obtain ⟨db, hdb, hsel⟩ : ∃ db : DBl, (rB db ∧ db.code.length ≤ 1000000) ∧ (if decide ((i : Int) < (d.blocks.length : Int)) = true then (idx d.blocks (i : Int)).bind fun x3 => some (x3.code, x3.term, x3.a, x3.b, x3.v) else some (([] : List DIns), (0 : Int), (0 : Int), (0 : Int), (0 : Int))) = some (db.code, db.term, db.a, db.b, db.v) := by
      by_cases c : i < d.blocks.length
      · obtain ⟨b, hb⟩ := getAt c
        exact ⟨b, ⟨h.2.2.2 b (List.mem_of_getElem? hb), hc b (List.mem_of_getElem? hb)⟩, by rw [if_pos (by simp; omega), idx_nat hb]; rfl⟩
      · refine ⟨⟨[], 0, 0, 0, 0⟩, ⟨⟨by simp, ⟨by decide, by decide⟩, ⟨by decide, by decide⟩, ⟨by decide, by decide⟩, ⟨by decide, by decide⟩⟩, by simp⟩, ?_⟩
        rw [if_neg (by simp; omega)]
    obtain ⟨⟨m2, cd2⟩, q1, q2⟩ := toN_inv (fun j (s : dyehouseref12_maker × List Ins) => Mk s.1 (12 + j) ∧ s.1.f = (⟨m0, nm, rg, pa, bs⟩ : Fnc) ∧ s.1.ids = ⟨idsG (cntG d), idsX (cntX d)⟩ ∧ s.2.length ≤ 12 + j ∧ ∀ y ∈ s.2, y.labels = [])
      (fun j s => p_dyehouseref12_Make_b6 fuel db.code j s.1 s.2) db.code.length (by have := hdb.2; omega) (s := ((⟨(⟨m0, nm, rg, pa, bs⟩ : Fnc), (⟨idsG (cntG d), idsX (cntX d)⟩ : A2 (List Int)), b4⟩ : dyehouseref12_maker), cd))
      ⟨⟨by simp [idsG]; exact hcg, by simp [idsX]; exact hcx, l4⟩, rfl, rfl, k5, k6⟩ (by
      rintro j ⟨m, c⟩ hj ⟨p1, p2, p3, p4, p5⟩
      simp only at p1 p2 p3 p4 p5
      obtain ⟨y, hy⟩ := getAt hj
      have hdl := hdb.2
      obtain ⟨x, m', r1, r2, r3, r4, r5⟩ := instr_ok p1 (by omega) fuel (hdb.1.1 y (List.mem_of_getElem? hy))
      have ha' : app c [x] = some (c ++ [x]) := app_ok (by simp; omega)
      refine ⟨(m', c ++ [x]), ?_, r2, r3.trans p2, r4.trans p3, by simp; omega, ?_⟩
      · show p_dyehouseref12_Make_b6 fuel db.code (j : Int) m c = _
        unfold p_dyehouseref12_Make_b6
        simp only [idx_nat hy, Option.bind_some, r1, ha']
      · intro z hz
        rcases List.mem_append.1 hz with hz | hz
        · exact p5 z hz
        · rw [List.mem_singleton.1 hz]; exact r5)
    obtain ⟨p1, p2, p3, p4, p5⟩ := q2
    simp only at p1 p2 p3 p4 p5
    have hdl := hdb.2
    obtain ⟨x, r1, r2⟩ := last_ok' p1 (by omega) fuel hdb.1 hn1 hn9 hi
    have ha1 : app cd2 [x] = some (cd2 ++ [x]) := app_ok (by simp; omega)
    have ha2 : app m2.f.blocks [(⟨lab i, false, ([] : List Opd), cd2 ++ [x]⟩ : Bl)] = some (bs ++ [⟨lab i, false, [], cd2 ++ [x]⟩]) := by rw [p2, app_ok (by simp; omega)]
    refine ⟨(m2.f.machine, m2.f.name, m2.f.regs, m2.f.params, bs ++ [⟨lab i, false, [], cd2 ++ [x]⟩], m2.ids.a0, m2.ids.a1, m2.has, []), ?_, by simp [k1], ?_, by rw [p3], by rw [p3], by simp, by simp⟩
    · show p_dyehouseref12_Make_b5 fuel d b4 (i : Int) m0 nm rg pa bs (idsG (cntG d)) (idsX (cntX d)) hs cd = _
      unfold p_dyehouseref12_Make_b5
      rw [hsel, hn]
      simp only [Option.bind_some, ha, q1, r1, ha1, label_all i (by omega), ha2]
    · intro j b hb
      simp only at hb
      by_cases hj : j < bs.length
      · rw [List.getElem?_append_left hj] at hb
        exact k2 j b hb
      · have hjl := (List.getElem?_eq_some_iff.1 hb).1
        have : j = bs.length := by simp at hjl; omega
        subst this
        simp at hb
        subst hb
        rw [k1]
        refine ⟨rfl, by simp; omega, ⟨x, by simp, r2⟩, ?_⟩
        intro y hy
        rcases List.mem_append.1 hy with hy | hy
        · rw [p5 y hy]; simp
        · rw [List.mem_singleton.1 hy]; exact r2.len)
  obtain ⟨s0, s1, s2, s3, s4, s5, s6, s7, s8⟩ := s
  refine ⟨⟨s0, s1, s2, s3, s4⟩, ?_, ⟨e6.1, e6.2.1⟩⟩
  unfold p_dyehouseref12_Make
  rw [e1]
  simp only [Option.bind_some]
  have e2' : toN 0 12 (fun i s => p_dyehouseref12_Make_b3 fuel d i s) ([] : List Rg) = some (rgs d 12) := e2
  rw [e2']
  simp only [Option.bind_some]
  rw [e4]
  simp only [bindE, ha, Option.bind_some]
  rw [hn, e5]
  rfl
end Go.Proofs.Ytodafoajkajnkaa.PL
set_option linter.unusedVariables false
set_option linter.unusedSectionVars false
set_option linter.unusedSimpArgs false
namespace Go.Proofs.Ytodafoajkajnkaa.PL
open Go

theorem foldT_sub (f : Fnc) (ls : List ByteArray) : ∀ acc : List Int, ∀ r ∈ acc, r ∈ ls.foldl (fun a l => addT a (fnd f l)) acc := by
  induction ls with
  | nil => intro acc r h; exact h
  | cons l ls ih =>
    intro acc r h
    refine ih _ r ?_
    show r ∈ addT acc (fnd f l)
    unfold addT
    split
    · exact List.mem_append_left _ h
    · exact h
theorem foldT_mem (f : Fnc) (ls : List ByteArray) : ∀ acc : List Int, ∀ l ∈ ls, 0 ≤ fnd f l → fnd f l ∈ ls.foldl (fun a l => addT a (fnd f l)) acc := by
  induction ls with
  | nil => intro acc l h; cases h
  | cons x ls ih =>
    intro acc l h h0
    rcases List.mem_cons.1 h with rfl | h
    · refine foldT_sub f ls _ _ ?_
      show fnd f l ∈ addT acc (fnd f l)
      unfold addT
      split
      · simp
      · rename_i c
        exact Classical.byContradiction fun h => c ⟨h0, h⟩
    · exact ih _ l h h0
theorem tgl_mem {f : Fnc} {ls : List ByteArray} {l : ByteArray} (h : l ∈ ls) (h0 : 0 ≤ fnd f l) : fnd f l ∈ tgl f ls := foldT_mem f ls [] l h h0
section mok
variable {f : Fnc} {n : Nat} (hM : MOk n f) (hn9 : n ≤ 9)
include hM hn9
theorem mok_fOk : fOk f := by
  refine ⟨by rw [hM.len]; omega, fun b hb => ?_⟩
  obtain ⟨i, hi⟩ := List.getElem?_of_mem hb
  have := hM.blk i b hi
  exact ⟨by have := this.len; omega, fun y hy => by have := this.labels y hy; omega⟩
theorem mok_fnd {j : Nat} (hj : j < n) : fnd f (lab j) = (j : Int) := by
  refine isFnd_same (fnd_is (mok_fOk hM hn9) _) (.inl ⟨j, rfl, ?_, ?_⟩)
  · obtain ⟨b, hb⟩ := getAt (xs := f.blocks) (i := j) (by rw [hM.len]; exact hj)
    exact ⟨b, hb, (hM.blk j b hb).label⟩
  · intro k hk b hb e
    have h1 := (hM.blk k b hb).label
    rw [h1] at e
    have := lab_inj k (by omega) j (by omega) e
    omega
theorem mok_TT {i : Nat} (hi : i < n) : ∃ x : Ins, LOk n i x ∧ TT f i = tgl f x.labels := by
  obtain ⟨b, hb⟩ := getAt (xs := f.blocks) (i := i) (by rw [hM.len]; exact hi)
  obtain ⟨x, hx, hL⟩ := (hM.blk i b hb).last
  refine ⟨x, hL, ?_⟩
  unfold TT
  rw [hb]
  show tg f b = _
  unfold tg lastB
  rw [hx]
  simp only [hL.op, and_self, if_true]
theorem mok_next {i : Nat} (hi : i + 1 < n) : EE f i (i + 1) := by
  obtain ⟨x, hL, hT⟩ := mok_TT hM hn9 (i := i) (by omega)
  have h1 := hL.next hi
  have h2 := mok_fnd hM hn9 hi
  have := tgl_mem (f := f) h1 (by rw [h2]; omega)
  unfold EE
  rw [hT, ← h2]
  exact this
theorem mok_reach : ∀ {i : Nat}, i < n → PT f 0 i
  | 0, h => PT.refl _ _
  | i + 1, h => (mok_reach (i := i) (by omega)).snoc' (mok_next hM hn9 h)
end mok
theorem many_ok {d : Drf} (h : (d.blocks.map fun b => 1 + b.code.length).sum ≤ 1048576) (fuel : Nat) : ∃ r, p_dyehouseref12_Many fuel d = some r ∧ (r = false → d.blocks.length ≤ 9 ∧ ∀ b ∈ d.blocks, b.code.length ≤ 60) := by
  have hlen : ∀ l : List DBl, l.length ≤ (l.map fun b => 1 + b.code.length).sum := by
    intro l
    induction l with
    | nil => simp
    | cons b l ih => simp; omega
  have hmem : ∀ (l : List DBl), ∀ b ∈ l, b.code.length ≤ (l.map fun b => 1 + b.code.length).sum := by
    intro l
    induction l with
    | nil => intro b h; cases h
    | cons x l ih =>
      intro b hb
      rcases List.mem_cons.1 hb with rfl | hb
      · simp; omega
      · have := ih b hb; simp; omega
  have hl := hlen d.blocks
  have htake : ∀ k, ((d.blocks.take k).map fun b => 1 + b.code.length).sum ≤ (d.blocks.map fun b => 1 + b.code.length).sum := by
    intro k
    have key : ∀ (l : List Nat) (k : Nat), (l.take k).sum ≤ l.sum := by
      intro l
      induction l with
      | nil => simp
      | cons x l ih =>
        intro k
        cases k with
        | zero => simp
        | succ k => have := ih k; simp; omega
    rw [List.map_take]
    exact key _ k
  obtain ⟨s, e1, e2⟩ := toN_inv (fun i (s : Int) => s = ((((d.blocks.take i).map fun b => 1 + b.code.length).sum : Nat) : Int)) (fun i s => p_dyehouseref12_Many_b1 fuel d i s) d.blocks.length (by omega) (s := 0) (by simp) (by
    rintro i s hi rfl
    obtain ⟨b, hb⟩ := getAt hi
    have h1 := htake i
    have h2 := hmem _ b (List.mem_of_getElem? hb)
    unfold p_dyehouseref12_Many_b1
    simp only [idx_nat hb, Option.bind_some]
    refine ⟨_, rfl, ?_⟩
    rw [List.take_add_one, hb]
    rw [wrap_in (x := ((((d.blocks.take i).map fun b => 1 + b.code.length).sum : Nat) : Int) + 1) (by omega) (by omega), wrap_in (by omega) (by omega)]
    simp
    omega)
  rw [List.take_length] at e2
  unfold p_dyehouseref12_Many
  rw [e1]
  refine ⟨_, rfl, fun hr => ?_⟩
  subst e2
  simp at hr
  refine ⟨by omega, fun b hb => ?_⟩
  have := hmem _ b hb
  have h3 : (d.blocks.map fun b => 1 + b.code.length).sum ≤ 60 := by
    have := hr.2
    simp at this ⊢
    omega
  omega
theorem works19 : p_dyehouselaw19_works 1152921504606846976 = some true := by decide +kernel
theorem toE_from1 {σ ρ : Type} (R : ρ → Prop) (f : Int → σ → Option (Ex σ ρ)) {n : Nat} (hn : n ≤ 4294967296) (h1 : 1 ≤ n) {s : σ} (step : ∀ (i : Nat) s, 1 ≤ i → i < n → (∃ s', f (i : Int) s = some (.n s')) ∨ ∃ v, f (i : Int) s = some (.r v) ∧ R v) :
    (∃ s', toE 1 (n : Int) f s = some (.n s')) ∨ ∃ v, toE 1 (n : Int) f s = some (.r v) ∧ R v := by
  unfold toE
  rw [if_pos (by constructor <;> omega), show ((n : Int) - 1).toNat = n - 1 by omega]
  rcases forE_inv (fun i (_ : σ) => 1 ≤ i) R f n (fun i s hi h => by
    rcases step i s h hi with ⟨s', h2⟩ | h2
    · exact .inl ⟨s', h2, by omega⟩
    · exact .inr h2) (n - 1) 1 s (by omega) (Nat.le_refl _) with ⟨s', h2, _⟩ | h2
  · exact .inl ⟨s', h2⟩
  · exact .inr h2
theorem embN_mem {l : List Nat} {k : Nat} : (k : Int) ∈ embN l ↔ k ∈ l := by
  unfold embN
  constructor
  · intro h
    obtain ⟨x, hx, e⟩ := List.mem_map.1 h
    have : x = k := by omega
    subst this; exact hx
  · intro h; exact List.mem_map.2 ⟨k, h, rfl⟩
/-- What stands behind in a list stands ahead in it turned round. -/
theorem bef_rev {w : List Nat} (hn : w.Nodup) {i v p : Nat} (hv : w.reverse[i]? = some v) : p ∈ w.reverse.take i ↔ Bef w v p := by
  have hi := (List.getElem?_eq_some_iff.1 hv).1
  simp at hi
  rw [List.getElem?_reverse hi] at hv
  constructor
  · intro h
    obtain ⟨j, hj⟩ := List.getElem?_of_mem h
    have hjl := (List.getElem?_eq_some_iff.1 hj).1
    simp at hjl
    rw [List.getElem?_take_of_lt (by omega), List.getElem?_reverse (by omega)] at hj
    exact ⟨w.length - 1 - i, w.length - 1 - j, by omega, hv, hj⟩
  · rintro ⟨a, b, hab, ha, hb⟩
    have hal := (List.getElem?_eq_some_iff.1 ha).1
    have hbl := (List.getElem?_eq_some_iff.1 hb).1
    have : a = w.length - 1 - i := by
      have e := (List.getElem?_inj hal hn).1 (ha.trans hv.symm)
      exact e
    have hk : (w.reverse.take i)[w.length - 1 - b]? = some p := by
      rw [List.getElem?_take_of_lt (by omega), List.getElem?_reverse (by omega), show w.length - 1 - (w.length - 1 - b) = b by omega]
      exact hb
    exact List.mem_of_getElem? hk
theorem law_GraphOrder {d : Drf} (h : rD d) (hs : (d.blocks.map fun b => 1 + b.code.length).sum ≤ 1048576) : p_dyehouselaw19_GraphOrder 1152921504606846976 d = some true := by
  obtain ⟨r, e1, hr⟩ := many_ok hs 1152921504606846976
  unfold p_dyehouselaw19_GraphOrder
  simp only [e1, Option.bind_some, works19]
  cases r with
  | true => rfl
  | false =>
    obtain ⟨h9, h60⟩ := hr rfl
    obtain ⟨f, e2, hM⟩ := make_ok h h9 (fun b hb => by have := h60 b hb; omega) (fuel := 1152921504606846976) (by omega)
    have hn9 : max d.blocks.length 1 ≤ 9 := by omega
    have hn1 : 1 ≤ max d.blocks.length 1 := by omega
    generalize max d.blocks.length 1 = n at hM hn9 hn1
    have hn := mok_fOk hM hn9
    have hlen := hM.len
    obtain ⟨g, e3, g1, g2, g3, g4⟩ := new_f hn (fuel := 1152921504606846976) (by omega)
    obtain ⟨w, e4, hP, hwl⟩ := order_ok hn g3 g1 (fuel := 1152921504606846976) (by omega) (by omega)
    have e5 := succ_ok hn 1152921504606846976
    -- all blocks stand in the order
    have hall : ∀ j, j < n → j ∈ w := fun j hj => (hP.mem j).2 (mok_reach hM hn9 hj)
    have hlt : ∀ j ∈ w, j < n := by
      intro j hj
      have h0 := (hP.mem j).1 hj
      have := Path.closed (C := fun j => j < f.blocks.length) (fun a b _ hE _ => TT_lt hn hE) h0 (by omega)
      omega
    have hwn : w.length = n := by
      have : List.Perm w (List.range n) := by
        rw [List.perm_iff_count]
        intro a
        rw [hP.nd.count, (List.nodup_range (n := n)).count]
        have : a ∈ w ↔ a ∈ List.range n := ⟨fun h => List.mem_range.2 (hlt a h), fun h => hall a (List.mem_range.1 h)⟩
        simp only [this]
      simpa using this.length_eq
    have hol : (embN w.reverse).length = n := by simp [embN, hwn]
    have h0 : idx (embN w.reverse) 0 = some 0 := by
      have hw0 : w.reverse[0]? = some 0 := by
        rw [List.getElem?_reverse (by omega), Nat.sub_zero, ← List.getLast?_eq_getElem?]
        exact hP.last
      refine idx_nat (i := 0) ?_
      unfold embN
      rw [List.getElem?_map, hw0]
      rfl
    have hsl : ((f.blocks.map (tg f)).length : Int) = (n : Int) := by simp [hlen]
    simp only [Bool.false_eq_true, if_false, e2, e3, e4, e5, Option.bind_some, hol, hsl, ne_eq, not_true_eq_false, decide_false, h0]
    rcases toE_from1 (fun _ : Bool => False) (fun i (_ : Unit) => p_dyehouselaw19_GraphOrder_b1 1152921504606846976 g (embN w.reverse) (f.blocks.map (tg f)) i) (n := n) (by omega) hn1 (s := ()) (by
      intro i _ hi1 hi
      left
      refine ⟨(), ?_⟩
      obtain ⟨v, hv⟩ := getAt (xs := w.reverse) (i := i) (by simp; omega)
      have hvw : v ∈ w := List.mem_reverse.1 (List.mem_of_getElem? hv)
      have hvn := hlt v hvw
      have hiv : idx (embN w.reverse) (i : Int) = some (v : Int) := by
        refine idx_nat ?_
        unfold embN
        rw [List.getElem?_map, hv]; rfl
      have hpr := gpred_ok (f := f) hn (fuel := 1152921504606846976) g1 g4 (x := v) (by omega)
      have hsli : sli (embN w.reverse) 0 (i : Int) = some (embN (w.reverse.take i)) := by
        unfold sli
        rw [if_pos (by rw [hol]; omega)]
        simp [embN, List.map_take]
      have hin : ∀ k : Nat, p_dyehouseref12_In 1152921504606846976 (embN (w.reverse.take i)) (k : Int) = some (decide (k ∈ w.reverse.take i)) := by
        intro k
        rw [in_ref (by simp [embN]; omega)]
        congr 1
        simp only [embN_mem]
      have hv0 : v ≠ 0 := by
        rintro rfl
        have hw0 : w.reverse[0]? = some 0 := by
          rw [List.getElem?_reverse (by omega), Nat.sub_zero, ← List.getLast?_eq_getElem?]
          exact hP.last
        have hnr : w.reverse.Nodup := (List.reverse_perm w).nodup_iff.2 hP.nd
        have := (List.getElem?_inj (by simp; omega) hnr).1 (hv.trans hw0.symm)
        omega
      have hpl := PP_len f n v
      obtain ⟨u, hu⟩ : ∃ u : Unit, u = () := ⟨(), rfl⟩
      unfold p_dyehouselaw19_GraphOrder_b1
      rw [hiv]
      simp only [Option.bind_some]
      rw [hpr, hlen]
      simp only [Option.bind_some]
      refine Or.elim (toE_inv (fun y (s : Bool) => ∀ z, z < y → ∀ k : Nat, (PP f n v)[z]? = some (k : Int) → k ∈ w.reverse.take i → s = true) (fun _ : Ex Unit Bool => False)
        (fun y s => p_dyehouselaw19_GraphOrder_b2 1152921504606846976 (embN w.reverse) (f.blocks.map (tg f)) i v (PP f n v) y s) (PP f n v).length (by omega) (s := false) (by intro z hz; omega) ?_) ?_ ?_
      rotate_left
      · rintro ⟨s, q1, q2⟩
        have hs1 : s = true := by
          rcases hP.par v hvw with h | ⟨p, hE, hB⟩
          · exact absurd h hv0
          · have hp : p ∈ w.reverse.take i := (bef_rev hP.nd hv).2 hB
            have hpp : (p : Int) ∈ PP f n v := by
              rw [PP_mem]
              exact ⟨p, rfl, by have := TT_fst hE; omega, hE⟩
            obtain ⟨z, hz⟩ := List.getElem?_of_mem hpp
            exact q2 z (List.getElem?_eq_some_iff.1 hz).1 p hz hp
        subst hs1
        rw [q1]
        have hself : v ∉ w.reverse.take i := by
          intro h
          obtain ⟨a, b, hab, ha, hb⟩ := (bef_rev hP.nd hv).1 h
          have := (List.getElem?_inj (List.getElem?_eq_some_iff.1 ha).1 hP.nd).1 (ha.trans hb.symm)
          omega
        simp [bindE, hsli, hin, hself]
      · rintro ⟨v, _, h⟩; exact h.elim
      · intro y s hy hI
        left
        obtain ⟨k, hk⟩ := getAt hy
        obtain ⟨q, rfl, hqn, hE⟩ := PP_mem.1 (List.mem_of_getElem? hk)
        have c0 : ((((decide ((q : Int) < 0)) || (decide (((f.blocks.map (tg f)).length : Int) ≤ (q : Int)))) || (decide ((v : Int) < 0))) || (decide (((f.blocks.map (tg f)).length : Int) ≤ (v : Int)))) = false := by
          rw [hsl]; simp; omega
        obtain ⟨rs, a1, a2, a3⟩ := reach_ok hn (fuel := 1152921504606846976) (by omega) (wo := -1) (k := v) (by omega)
        obtain ⟨x4, hx4⟩ := getAt (xs := rs) (i := q) (by omega)
        have hreach : q ∉ w.reverse.take i → x4 = true := by
          intro hq
          have hqw : q ∈ w := hall q hqn
          rcases hP.ed q hqw v hE with h | h
          · exact absurd ((bef_rev hP.nd hv).2 h) hq
          · have := (a3 q).2 h
            unfold SS at this
            rw [hx4] at this
            exact Option.some.inj this
        unfold p_dyehouselaw19_GraphOrder_b2
        rw [idx_nat hk]
        simp only [Option.bind_some, c0, Bool.false_eq_true, if_false, hsli, hin, a1, idx_nat hx4]
        by_cases hq : q ∈ w.reverse.take i
        · simp only [hq, decide_true, Bool.not_true, Bool.false_eq_true, if_false, Option.bind_some, Bool.or_true]
          exact ⟨_, rfl, fun _ _ _ _ _ => rfl⟩
        · have := hreach hq
          subst this
          simp only [hq, decide_false, Bool.not_false, if_true, Option.bind_some, Bool.not_true, Bool.false_eq_true, if_false, Bool.or_false]
          refine ⟨_, rfl, fun z hz k' hk' hm => ?_⟩
          by_cases e : z = y
          · subst e
            rw [hk] at hk'
            have := Option.some.inj hk'
            have : q = k' := by omega
            subst this
            exact absurd hm hq
          · exact hI z (by omega) k' hk' hm) with ⟨s, q1⟩ | ⟨v, _, h⟩
    · rw [q1]; rfl
    · exact h.elim
end Go.Proofs.Ytodafoajkajnkaa.PL
