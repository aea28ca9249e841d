/- Plain facts about the pure functions: the law GraphTells. -/
import Derived.Test.YtodafoajkajnkaaPT2
set_option linter.unusedVariables false
set_option linter.unusedSectionVars false
set_option linter.unusedSimpArgs false
namespace Go.Proofs.Ytodafoajkajnkaa.PL
open Go

theorem reverse_ok {l : List Int} (hl : l.length ≤ 1000000) {fuel : Nat} (hf : 1000001 < fuel) : p_slices_Reverse_int_int fuel l = some l.reverse := by
  unfold p_slices_Reverse_int_int
  refine Or.elim (loopE_inv (fun q : List Int × Int × Int => ∃ i : Nat, q.2.1 = i ∧ q.2.2 = (l.length : Int) - 1 - i ∧ i ≤ l.length ∧ q.1.length = l.length ∧ ∀ k, k < l.length → q.1[k]? = if k < i ∨ l.length ≤ k + i then l[l.length - 1 - k]? else l[k]?) (fun q => q.1 = l.reverse) (fun _ : List Int => False) (fun q => l.length - q.2.1.toNat)
    (fun s => p_slices_Reverse_int_int_b1 fuel s.1 s.2.1 s.2.2) ?_ fuel (l, 0, IntKind.wrap .i64 ((l.length : Int) - 1)) ⟨0, rfl, by simp only [wrap_in (show -9223372036854775808 ≤ (l.length : Int) - 1 by omega) (show (l.length : Int) - 1 ≤ 9223372036854775807 by omega)]; omega, by omega, rfl, by
      intro k hk; rw [if_neg (by omega)]⟩ (by simp; omega)) ?_ ?_
  rotate_left
  · rintro ⟨⟨a, b, c⟩, k1, k2⟩
    rw [k1]
    simp only at k2
    rw [← k2]
    rfl
  · rintro ⟨v, _, h⟩; exact h.elim
  · rintro ⟨s, p, q⟩ ⟨i, hp, hq, hi, hs, hk⟩
    simp only at hp hq hs hk
    subst hp; subst hq
    show (∃ s', p_slices_Reverse_int_int_b1 fuel s (i : Int) ((l.length : Int) - 1 - i) = some (.n s') ∧ _) ∨ (∃ s', p_slices_Reverse_int_int_b1 fuel s (i : Int) ((l.length : Int) - 1 - i) = some (.b s') ∧ _) ∨ _
    unfold p_slices_Reverse_int_int_b1
    by_cases c : 2 * i + 1 < l.length
    · left
      have hc : (i : Int) < (l.length : Int) - 1 - i := by omega
      obtain ⟨J, hJ⟩ : ∃ J, J + i + 1 = l.length := ⟨l.length - 1 - i, by omega⟩
      have hJ' : (l.length : Int) - 1 - i = (J : Int) := by omega
      obtain ⟨xJ, h1⟩ := getAt (xs := s) (i := J) (by omega)
      obtain ⟨xi, h2⟩ := getAt (xs := s) (i := i) (by omega)
      obtain ⟨xK, h3⟩ := getAt (xs := s.set i xJ) (i := J) (by simp; omega)
      have hs1 : setI s (i : Int) xJ = some (s.set i xJ) := setI_nat (by omega)
      have hs2 : setI (s.set i xJ) (J : Int) xi = some ((s.set i xJ).set J xi) := setI_nat (by simp; omega)
      have hJi : (i : Int) < (J : Int) := by omega
      simp only [hJ', hJi, decide_true, if_true, idx_nat h1, idx_nat h2, Option.bind_some, hs1, idx_nat h3, hs2]
      refine ⟨_, rfl, ⟨i + 1, wrap1 (by omega), ?_, by omega, by simp; omega, ?_⟩, ?_⟩
      · show IntKind.i64.wrap ((J : Int) - 1) = _
        rw [wrap_in (by omega) (by omega)]; omega
      · intro k hkl
        show ((s.set i xJ).set J xi)[k]? = _
        by_cases e : k = J
        · subst e
          rw [List.getElem?_set_self (by simp; omega), if_pos (by omega), show l.length - 1 - k = i by omega, ← h2, hk i (by omega), if_neg (by omega)]
        · rw [List.getElem?_set_ne (by omega)]
          by_cases e2 : k = i
          · subst e2
            rw [List.getElem?_set_self (by omega), if_pos (by omega), show l.length - 1 - k = J by omega, ← h1, hk J (by omega), if_neg (by omega)]
          · rw [List.getElem?_set_ne (by omega), hk k hkl]
            by_cases e3 : k < i ∨ l.length ≤ k + i
            · rw [if_pos e3, if_pos (by omega)]
            · rw [if_neg e3, if_neg (by omega)]
      · show l.length - (IntKind.i64.wrap ((i : Int) + 1)).toNat < l.length - ((i : Int)).toNat
        rw [wrap1 (by omega)]; omega
    · right; left
      have hc : ¬ ((i : Int) < (l.length : Int) - 1 - i) := by omega
      simp only [hc, decide_false, Bool.false_eq_true, if_false]
      refine ⟨_, rfl, ?_⟩
      show s = l.reverse
      apply List.ext_getElem?
      intro k
      by_cases hkl : k < l.length
      · rw [List.getElem?_reverse hkl, hk k hkl]
        split
        · rfl
        · rw [show l.length - 1 - k = k by omega]
      · rw [List.getElem?_eq_none (by omega), List.getElem?_eq_none (by simp; omega)]
section
variable {f : Fnc} (hn : fOk f) {fuel : Nat} {g : graph_Graph} (h2 : ∀ j : Nat, j < f.blocks.length → g.succ[j]? = some (TT f j)) (hg : g.succ.length = f.blocks.length) (h80 : f.blocks.length ≤ 80) (hf : 100000000 < fuel)
theorem rorder_rev {o : List Int} (ho : o.length ≤ 81) (hf' : 100000000 < fuel) : bindE (loopE fuel (fun s => p_dyehouseref19_Order_b1 fuel o s.1 s.2) ([], IntKind.wrap .i64 ((o.length : Int) - 1))) (fun (out_3, i_3) => some out_3) some = some o.reverse := by
  refine Or.elim (loopE_inv (fun q : List Int × Int => ∃ y : Nat, q.2 = (y : Int) - 1 ∧ y ≤ o.length ∧ q.1 = (o.drop y).reverse) (fun q => q.1 = o.reverse) (fun _ : List Int => False) (fun q => (q.2 + 1).toNat)
    (fun s => p_dyehouseref19_Order_b1 fuel o s.1 s.2) ?_ fuel ([], IntKind.wrap .i64 ((o.length : Int) - 1)) ⟨o.length, wrap_in (by omega) (by omega), by omega, by simp⟩ (by
      show (IntKind.wrap .i64 ((o.length : Int) - 1) + 1).toNat < fuel
      rw [wrap_in (by omega) (by omega)]; omega)) ?_ ?_
  rotate_left
  · rintro ⟨⟨a, b⟩, k1, k2⟩
    rw [k1]
    simp only at k2
    rw [← k2]
    rfl
  · rintro ⟨v, _, h⟩; exact h.elim
  · rintro ⟨out, p⟩ ⟨y, hp, hy, ho2⟩
    simp only at hp ho2
    subst hp; subst ho2
    show (∃ s', p_dyehouseref19_Order_b1 fuel o _ ((y : Int) - 1) = some (.n s') ∧ _) ∨ (∃ s', p_dyehouseref19_Order_b1 fuel o _ ((y : Int) - 1) = some (.b s') ∧ _) ∨ _
    unfold p_dyehouseref19_Order_b1
    cases y with
    | zero =>
      right; left
      refine ⟨_, by simp; rfl, ?_⟩
      simp
    | succ y =>
      left
      obtain ⟨x, hx⟩ := getAt (xs := o) (i := y) (by omega)
      have e : ((y + 1 : Nat) : Int) - 1 = (y : Int) := by omega
      have hp : (0 : Int) ≤ (y : Int) := by omega
      have ha : app (o.drop (y + 1)).reverse [x] = some ((o.drop (y + 1)).reverse ++ [x]) := app_ok (by simp; omega)
      simp only [e, hp, decide_true, if_true, idx_nat hx, Option.bind_some, ha]
      have hw : IntKind.i64.wrap ((y : Int) - 1) = (y : Int) - 1 := wrap_in (by omega) (by omega)
      refine ⟨_, rfl, ⟨y, hw, by omega, ?_⟩, ?_⟩
      · show (o.drop (y + 1)).reverse ++ [x] = (o.drop y).reverse
        have : o.drop y = x :: o.drop (y + 1) := by
          have hlt : y < o.length := by omega
          rw [List.drop_eq_getElem_cons hlt]
          rw [List.getElem?_eq_getElem hlt] at hx
          rw [Option.some.inj hx]
        rw [this, List.reverse_cons]
      · show ((IntKind.i64.wrap ((y : Int) - 1)) + 1).toNat < ((y : Int) + 1).toNat
        rw [hw]; omega
include hn h2 hg h80 hf in
theorem order_ok : ∃ o, p_graph_Graph_Order fuel g = some o ∧ p_dyehouseref19_Order fuel (f.blocks.map (tg f)) = some o ∧ o.length ≤ 81 ∧ ∀ k : Nat, k < f.blocks.length → ((k : Int) ∈ o ↔ PT f 0 k) := by
  unfold p_graph_Graph_Order p_dyehouseref19_Order p_graph_Graph_Len
  rw [List.length_map, hg]
  by_cases h0 : f.blocks.length = 0
  · refine ⟨[], by simp [h0], by simp [h0], by simp, ?_⟩
    intro k hk; omega
  · have hne : ¬ ((f.blocks.length : Int) = 0) := by omega
    obtain ⟨o, seen', k1, k2, k3, k4, k5⟩ := post_ok hn h2 hg h80 hf (by omega)
    refine ⟨o.reverse, ?_, ?_, by simpa using k3, ?_⟩
    · simp only [Option.bind_some, hne, decide_false, Bool.false_eq_true, if_false, k1, reverse_ok (l := o) (by omega) (by omega : 1000001 < fuel)]
    · rw [mk_nat (by omega)]
      simp only [Option.bind_some, hne, decide_false, Bool.false_eq_true, if_false, k2]
      exact rorder_rev k3 hf
    · intro k hk
      rw [List.mem_reverse]
      exact k5 k
theorem of_ok {l : List Int} (hl : l.length ≤ 81) (hf' : 100000000 < fuel) {n : Nat} (hn' : n ≤ 4294967296) : ∃ s, p_bits_Of fuel (n : Int) l = some s ∧ bV s n ∧ ∀ k : Nat, k < n → (bH s k = true ↔ (k : Int) ∈ l) := by
  obtain ⟨s0, e0, hV0, hB0⟩ := new_ok (n := n) hn' fuel
  unfold p_bits_Of
  rw [e0]
  simp only [Option.bind_some]
  refine Or.elim (loopE_inv (fun q : Int × List Int × Int => ∃ y : Nat, q.2.2 = y ∧ y ≤ l.length ∧ bV ⟨q.1, q.2.1⟩ n ∧ ∀ k : Nat, k < n → (bH ⟨q.1, q.2.1⟩ k = true ↔ (k : Int) ∈ l.take y)) (fun q => bV ⟨q.1, q.2.1⟩ n ∧ ∀ k : Nat, k < n → (bH ⟨q.1, q.2.1⟩ k = true ↔ (k : Int) ∈ l)) (fun _ : bits_Set => False) (fun q => l.length - q.2.2.toNat)
    (fun s => p_bits_Of_b1 fuel l s.1 s.2.1 s.2.2) ?_ fuel (s0.n, s0.words, 0) ⟨0, rfl, by omega, hV0, fun k hk => by
      show bH s0 k = true ↔ _
      rw [hB0 k]; simp⟩ (by simp; omega)) ?_ ?_
  rotate_left
  · rintro ⟨⟨a, b, c⟩, k1, k2, k3⟩
    rw [k1]
    exact ⟨⟨a, b⟩, rfl, k2, k3⟩
  · rintro ⟨v, _, h⟩; exact h.elim
  · rintro ⟨a, b, q⟩ ⟨y, hq, hy, hV, hB⟩
    simp only at hq hV hB
    subst hq
    show (∃ s', p_bits_Of_b1 fuel l a b (y : Int) = some (.n s') ∧ _) ∨ (∃ s', p_bits_Of_b1 fuel l a b (y : Int) = some (.b s') ∧ _) ∨ _
    unfold p_bits_Of_b1
    by_cases c : y < l.length
    · left
      obtain ⟨x, hx⟩ := getAt c
      have hc : (y : Int) < (l.length : Int) := by omega
      have hm : l.length - (IntKind.i64.wrap ((y : Int) + 1)).toNat < l.length - ((y : Int)).toNat := by rw [wrap1 (by omega)]; omega
      have ht : l.take (y + 1) = l.take y ++ [x] := by rw [List.take_add_one, hx]; rfl
      simp only [hc, decide_true, if_true, idx_nat hx, Option.bind_some]
      rcases add_ok hV hn' fuel x with ⟨k1, k2⟩ | ⟨k, s', k1, k2, k3, k4, k5, k6⟩
      · simp only [k1, Option.bind_some]
        refine ⟨_, rfl, ⟨y + 1, wrap1 (by omega), by omega, hV, ?_⟩, hm⟩
        intro k hk
        show bH ⟨a, b⟩ k = true ↔ _
        rw [ht, List.mem_append, List.mem_singleton]
        constructor
        · intro h; exact .inl ((hB k hk).1 h)
        · rintro (h | h)
          · exact (hB k hk).2 h
          · exact k2 k h.symm hk
      · subst k1
        simp only [k4, Option.bind_some]
        refine ⟨_, rfl, ⟨y + 1, wrap1 (by omega), by omega, k5, ?_⟩, hm⟩
        intro j hj
        show bH s' j = true ↔ _
        rw [ht, List.mem_append, List.mem_singleton, k6 j, ← hB j hj, Bool.or_eq_true, decide_eq_true_eq]
        constructor
        · rintro (h | h)
          · exact .inl h
          · exact .inr (by omega)
        · rintro (h | h)
          · exact .inl h
          · exact .inr (by omega)
    · right; left
      have hc : ¬ ((y : Int) < (l.length : Int)) := by omega
      simp only [hc, decide_false, Bool.false_eq_true, if_false]
      refine ⟨_, rfl, hV, ?_⟩
      intro k hk
      show bH ⟨a, b⟩ k = true ↔ _
      rw [hB k hk, List.take_of_length_le (by omega)]
end
theorem works_ok2 : p_dyehouselaw19_works 1099511627776 = some true := by
  unfold p_dyehouselaw19_works p_graph_Graph_Edges
  simp only [edges_I]
  decide +kernel
theorem tells_law {f : Fnc} (hn : fOk f) (i : Int) : p_dyehouselaw19_GraphTells 1099511627776 f i = some true := by
  have hn1 := hn.1
  obtain ⟨b, hb, hb80⟩ := large_ok hn 1099511627776
  obtain ⟨g, hg, hg1, hg2, hg3, hg4⟩ := new_f hn (fuel := 1099511627776) (by omega)
  unfold p_dyehouselaw19_GraphTells
  rw [hb]
  simp only [Option.bind_some, works_ok2, succ_ok hn, hg, List.length_map]
  cases b with
  | true => rfl
  | false =>
    have h80 := hb80 rfl
    obtain ⟨o, ho1, ho2, ho3, ho4⟩ := order_ok hn hg3 hg1 h80 (fuel := 1099511627776) (by omega)
    have hlen : ∀ fuel, p_graph_Graph_Len fuel g = some (f.blocks.length : Int) := fun fuel => by unfold p_graph_Graph_Len; rw [hg1]
    simp only [hlen, Bool.false_eq_true, if_false, Option.bind_some, ne_eq, not_true_eq_false, decide_false, edges_ok hn h80 (fuel := 1099511627776) (by omega) hg1 hg3]
    refine Or.elim (toE_inv (fun x (nv : Int) => nv = ((EB f x).length : Int)) (fun _ : Bool => False) (fun i s => p_dyehouselaw19_GraphTells_b1 1099511627776 g (f.blocks.map (tg f)) (EB f f.blocks.length) i s) f.blocks.length (by omega) (s := 0) (by simp [EB]) ?_) ?_ ?_
    · rintro x nv hx rfl
      left
      unfold p_dyehouselaw19_GraphTells_b1
      have hT := TT_len hn x
      have hP := PP_len f f.blocks.length x
      simp only [gsucc_ok hn (fuel := 1099511627776) (by omega) hg1 hg3 hx, Option.bind_some, idx_nat (TT_at hx), ints_same (a := TT f x) (by omega), Bool.not_true, Bool.false_eq_true, if_false, pred_ok hn (fuel := 1099511627776) (by omega) hg1 hg4 hx, rpred_ok hn x, ints_same (a := PP f f.blocks.length x) (by omega), List.length_map]
      refine Or.elim (toE_inv (fun j (nv : Int) => nv = (((EB f x).length + (QQ f x j).length : Nat) : Int)) (fun _ : Ex Int Bool => False) (fun i s => p_dyehouselaw19_GraphTells_b2 1099511627776 (EB f f.blocks.length) x (TT f x) i s) f.blocks.length (by omega) (s := ((EB f x).length : Int)) (by simp [QQ]) ?_) ?_ ?_
      · rintro j nv hj rfl
        left
        unfold p_dyehouselaw19_GraphTells_b2
        rw [in_ref (l := TT f x) (by omega)]
        simp only [Option.bind_some]
        by_cases c : (j : Int) ∈ TT f x
        · have hE := EB_at hx hj c
          have hlt := (List.getElem?_eq_some_iff.1 hE).1
          have hEl := EB_len h80 f.blocks.length
          have hc : ¬ (((EB f f.blocks.length).length : Int) ≤ (((EB f x).length + (QQ f x j).length : Nat) : Int)) := by omega
          simp only [c, decide_true, if_true, hc, decide_false, Bool.false_eq_true, if_false, idx_nat hE, Option.bind_some, Bool.not_true]
          refine ⟨_, rfl, ?_⟩
          rw [wrap1 (by omega), QQ_next, if_pos c]
          simp
          omega
        · simp only [c, decide_false, Bool.false_eq_true, if_false]
          exact ⟨_, rfl, by rw [QQ_next, if_neg c, List.append_nil]⟩
      · rintro ⟨nv, k1, rfl⟩
        rw [k1]
        refine ⟨_, rfl, ?_⟩
        simp [EB]
      · rintro ⟨v, _, h⟩; exact h.elim
    · rintro ⟨nv, k1, rfl⟩
      rw [k1]
      simp only [bindE]
      have hr : ∃ r, p_dyehouseref19_Reach 1099511627776 (f.blocks.map (tg f)) 0 (-1) = some r ∧ r.length = f.blocks.length ∧ ∀ j, j < f.blocks.length → (SS r j ↔ PT f 0 j) := by
        by_cases h0 : f.blocks.length = 0
        · refine ⟨[], ?_, by simp [h0], fun j hj => by omega⟩
          have : f.blocks = [] := List.eq_nil_of_length_eq_zero h0
          simp [p_dyehouseref19_Reach, this, mk]
        · obtain ⟨r, h1, h2, h3⟩ := reach_ok hn (fuel := 1099511627776) (by omega) (wo := -1) (k := 0) (by omega)
          exact ⟨r, h1, h2, fun j _ => h3 j⟩
      obtain ⟨r, hr1, hr2, hr3⟩ := hr
      rw [hr1]
      simp only [Option.bind_some]
      refine Or.elim (toE_inv (fun _ (_ : Unit) => True) (fun _ : Bool => False) (fun i _ => p_dyehouselaw19_GraphTells_b3 1099511627776 g r i) f.blocks.length (by omega) (s := ()) trivial ?_) ?_ ?_
      · intro x u hx _
        left
        refine ⟨(), ?_, trivial⟩
        obtain ⟨s, hs1, hs2, hs3⟩ := of_ok (l := o) ho3 (fuel := 1099511627776) (by omega) (n := f.blocks.length) (by omega)
        obtain ⟨v, hv⟩ := getAt (xs := r) (i := x) (by omega)
        have hi' : decide (0 ≤ (x : Int) ∧ (x : Int) < (f.blocks.length : Int)) = true := by simp; omega
        unfold p_dyehouselaw19_GraphTells_b3 p_graph_Graph_Reached
        simp only [hlen, Option.bind_some, ho1, hs1, has_ok hs2 (by omega), hi', Bool.true_and, Int.toNat_natCast, idx_nat hv]
        have : bH s x = v := by
          have e1 := (hs3 x hx).trans ((ho4 x hx).trans (hr3 x hx).symm)
          unfold SS at e1
          rw [hv] at e1
          cases v <;> cases hb : bH s x
          · rfl
          · rw [hb] at e1
            have := e1.1 rfl
            simp at this
          · rw [hb] at e1
            have := e1.2 rfl
            cases this
          · rfl
        rw [this]
        simp
      · rintro ⟨u, k2, _⟩
        rw [k2]
        simp only
        by_cases c : 0 ≤ i ∧ i < (f.blocks.length : Int)
        · have c' : (decide (i < 0) || decide ((f.blocks.length : Int) ≤ i)) = false := by simp; omega
          simp only [c', Bool.false_eq_true, if_false, decide_true, if_true, ho1, ho2, Option.bind_some, ints_same (a := o) (by omega)]
        · have c' : (decide (i < 0) || decide ((f.blocks.length : Int) ≤ i)) = true := by simp; omega
          simp only [c', if_true, p_graph_Graph_Succ, p_graph_Graph_Pred, list_out hg1 c, Option.bind_some]
          simp
      · rintro ⟨v, _, h⟩; exact h.elim
    · rintro ⟨v, _, h⟩; exact h.elim
end Go.Proofs.Ytodafoajkajnkaa.PL
