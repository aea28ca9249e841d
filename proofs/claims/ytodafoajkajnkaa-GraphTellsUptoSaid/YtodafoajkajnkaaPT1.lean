/- Plain facts about the pure functions: the edges of a graph, and the order of its blocks, by a pile and by recursion. -/
import Derived.Test.YtodafoajkajnkaaPA5
set_option linter.unusedVariables false
set_option linter.unusedSectionVars false
set_option linter.unusedSimpArgs false
namespace Go.Proofs.Ytodafoajkajnkaa.PL
open Go

theorem ints_same {a : List Int} (ha : a.length ≤ 4294967296) (fuel : Nat) : p_dyehouseref12_Ints fuel a a = some true := by
  unfold p_dyehouseref12_Ints
  simp only [ne_eq, not_true_eq_false, decide_false, Bool.false_eq_true, if_false]
  refine Or.elim (toE_inv (fun _ (_ : Unit) => True) (fun _ : Bool => False) (fun i _ => p_dyehouseref12_Ints_b1 fuel a a i) a.length ha (s := ()) trivial ?_) ?_ ?_
  rotate_left
  · rintro ⟨u, h1, _⟩; rw [h1]; rfl
  · rintro ⟨v, _, h⟩; exact h.elim
  · intro i u hi _
    left
    obtain ⟨x, hx⟩ := getAt hi
    exact ⟨(), by simp [p_dyehouseref12_Ints_b1, idx_nat hx], trivial⟩
theorem foldT_nodup (f : Fnc) (ls : List ByteArray) : ∀ acc : List Int, acc.Nodup → (ls.foldl (fun a l => addT a (fnd f l)) acc).Nodup := by
  induction ls with
  | nil => intro acc h; exact h
  | cons l ls ih =>
    intro acc h
    refine ih _ ?_
    show (addT acc (fnd f l)).Nodup
    unfold addT
    split
    · rename_i c
      refine List.nodup_append.2 ⟨h, by simp, ?_⟩
      intro a ha b hb e
      have := List.mem_singleton.1 hb
      subst this; subst e
      exact c.2 ha
    · exact h
theorem TT_nodup (f : Fnc) (k : Nat) : (TT f k).Nodup := by
  unfold TT
  split
  · unfold tg
    split
    · exact foldT_nodup f _ [] (by simp)
    · simp
  · simp
/-- The targets of a block below x, in order. -/
def QQ (f : Fnc) (k x : Nat) : List Int := ((List.range x).filter (fun (j : Nat) => decide ((j : Int) ∈ TT f k))).map (fun (j : Nat) => (j : Int))
theorem QQ_len (f : Fnc) (k x : Nat) : (QQ f k x).length ≤ x := by
  unfold QQ
  rw [List.length_map]
  exact Nat.le_trans (List.length_filter_le _ _) (by simp)
theorem QQ_next (f : Fnc) (k x : Nat) : QQ f k (x + 1) = QQ f k x ++ if (x : Int) ∈ TT f k then [(x : Int)] else [] := by
  unfold QQ
  rw [List.range_succ, List.filter_append, List.map_append]
  congr 1
  by_cases c : (x : Int) ∈ TT f k <;> simp [c]
theorem QQ_mem {f : Fnc} {k x : Nat} {r : Int} : r ∈ QQ f k x ↔ ∃ j : Nat, r = j ∧ j < x ∧ (j : Int) ∈ TT f k := by
  unfold QQ
  constructor
  · intro h
    obtain ⟨i, hi, rfl⟩ := List.mem_map.1 h
    obtain ⟨h1, h2⟩ := List.mem_filter.1 hi
    exact ⟨i, rfl, List.mem_range.1 h1, of_decide_eq_true h2⟩
  · rintro ⟨i, rfl, h1, h2⟩
    exact List.mem_map.2 ⟨i, List.mem_filter.2 ⟨List.mem_range.2 h1, decide_eq_true h2⟩, rfl⟩
theorem QQ_sorted (f : Fnc) (k x : Nat) : (QQ f k x).Pairwise (· ≤ ·) :=
  List.Pairwise.map _ (fun a b h => by omega) (List.Pairwise.filter _ (List.pairwise_lt_range (n := x)))
theorem QQ_nodup (f : Fnc) (k x : Nat) : (QQ f k x).Nodup :=
  List.Pairwise.map _ (fun a b h => by omega) (List.Pairwise.filter _ (List.pairwise_lt_range (n := x)))
theorem sort_TT {f : Fnc} (hn : fOk f) (k : Nat) : isort (TT f k) = QQ f k f.blocks.length := by
  refine sorted_same (isort_sorted _) (QQ_sorted _ _ _) ((isort_perm _).trans ?_)
  rw [List.perm_iff_count]
  intro a
  rw [(TT_nodup f k).count, (QQ_nodup f k _).count]
  have : a ∈ QQ f k f.blocks.length ↔ a ∈ TT f k := by
    rw [QQ_mem]
    constructor
    · rintro ⟨j, rfl, _, h⟩; exact h
    · intro h
      obtain ⟨h0, h1⟩ := TT_in hn h
      obtain ⟨j, rfl⟩ := Int.eq_ofNat_of_zero_le h0
      exact ⟨j, rfl, by omega, h⟩
  simp only [this]
theorem sort_ok {f : Fnc} (hn : fOk f) (fuel k : Nat) : p_slices_Sort_int_int fuel (TT f k) = some (QQ f k f.blocks.length) := by
  have := TT_len hn k
  rw [sort_I, sortI, if_pos (by omega), sort_TT hn]
/-- The edges of the blocks below x. -/
def EB (f : Fnc) : Nat → List (A2 Int)
  | 0 => []
  | x + 1 => EB f x ++ (QQ f x f.blocks.length).map (fun j => (⟨(x : Int), j⟩ : A2 Int))
theorem EB_len {f : Fnc} (h80 : f.blocks.length ≤ 80) (x : Nat) : (EB f x).length ≤ 80 * x := by
  induction x with
  | zero => simp [EB]
  | succ x ih =>
    have := QQ_len f x f.blocks.length
    simp [EB]
    omega
theorem EB_pre (f : Fnc) (x : Nat) : ∀ m, x ≤ m → ∃ r, EB f m = EB f x ++ r := by
  intro m
  induction m with
  | zero => intro h; have : x = 0 := by omega
            subst this; exact ⟨[], by simp⟩
  | succ m ih =>
    intro h
    by_cases e : x = m + 1
    · subst e; exact ⟨[], by simp⟩
    · obtain ⟨r, hr⟩ := ih (by omega)
      exact ⟨r ++ (QQ f m f.blocks.length).map (fun j => (⟨(m : Int), j⟩ : A2 Int)), by rw [EB, hr, List.append_assoc]⟩
theorem QQ_pre (f : Fnc) (k x : Nat) : ∀ m, x ≤ m → ∃ r, QQ f k m = QQ f k x ++ r := by
  intro m
  induction m with
  | zero => intro h; have : x = 0 := by omega
            subst this; exact ⟨[], by simp⟩
  | succ m ih =>
    intro h
    by_cases e : x = m + 1
    · subst e; exact ⟨[], by simp⟩
    · obtain ⟨r, hr⟩ := ih (by omega)
      exact ⟨_, by rw [QQ_next, hr, List.append_assoc]⟩
theorem EB_at {f : Fnc} {x j : Nat} (hx : x < f.blocks.length) (hj : j < f.blocks.length) (h : (j : Int) ∈ TT f x) : (EB f f.blocks.length)[(EB f x).length + (QQ f x j).length]? = some ⟨(x : Int), (j : Int)⟩ := by
  obtain ⟨r, hr⟩ := EB_pre f (x + 1) f.blocks.length (by omega)
  obtain ⟨q, hq⟩ := QQ_pre f x (j + 1) f.blocks.length (by omega)
  rw [QQ_next, if_pos h] at hq
  rw [hr, EB, hq, List.append_assoc, List.getElem?_append_right (by omega), Nat.add_sub_cancel_left]
  simp only [List.map_append, List.append_assoc]
  rw [List.getElem?_append_right (by simp)]
  simp
section
variable {f : Fnc} (hn : fOk f) (h80 : f.blocks.length ≤ 80) {fuel : Nat} (hf : 2097152 < fuel)
include hn hf in
theorem gsucc_ok {g : graph_Graph} (h1 : g.succ.length = f.blocks.length) (h2 : ∀ j : Nat, j < f.blocks.length → g.succ[j]? = some (TT f j)) {x : Nat} (hx : x < f.blocks.length) :
    p_graph_Graph_Succ fuel g x = some (TT f x) := by
  have hn1 := hn.1
  have hl := TT_len hn x
  have ha : app [] (TT f x) = some (TT f x) := by rw [app_ok (by simp; omega)]; rfl
  have c1 : ¬ ((x : Int) < 0) := by omega
  have c2 : ¬ ((f.blocks.length : Int) ≤ (x : Int)) := by omega
  simp [p_graph_Graph_Succ, p_graph_Graph_list, p_graph_Graph_Len, p_slices_Clone_int_int, ix2, A2.at, idx_nat (h2 x hx), ha, h1, c1, c2]
theorem list_out {g : graph_Graph} {n : Nat} (h1 : g.succ.length = n) {i : Int} (hi : ¬ (0 ≤ i ∧ i < (n : Int))) (w : Int) : p_graph_Graph_list fuel g i w = some [] := by
  unfold p_graph_Graph_list p_graph_Graph_Len
  rw [h1]
  by_cases c : i < 0
  · simp [c]
  · have : (n : Int) ≤ i := by omega
    simp [c, this]
theorem rpred_ok (hn' : fOk f) (x : Nat) : p_dyehouseref19_Pred fuel (f.blocks.map (tg f)) x = some (PP f f.blocks.length x) := by
  have hn1 := hn'.1
  unfold p_dyehouseref19_Pred
  rw [List.length_map]
  obtain ⟨s, h1, h2⟩ := toN_inv (fun y (s : List Int) => s = PP f y x) (fun i s => p_dyehouseref19_Pred_b1 fuel (f.blocks.map (tg f)) x i s) f.blocks.length (by omega) (s := []) (by simp [PP]) (by
    rintro y s hy rfl
    have hl := PP_len f y x
    have ha : app (PP f y x) [(y : Int)] = some (PP f y x ++ [(y : Int)]) := app_ok (by simp; omega)
    unfold p_dyehouseref19_Pred_b1
    rw [idx_nat (TT_at hy)]
    simp only [Option.bind_some, in_ref (l := TT f y) (by have := TT_len hn' y; omega)]
    by_cases c : (x : Int) ∈ TT f y
    · exact ⟨PP f y x ++ [(y : Int)], by simp [c, ha], by rw [PP_next, if_pos c]⟩
    · exact ⟨PP f y x, by simp [c], by rw [PP_next, if_neg c, List.append_nil]⟩)
  rw [h1, h2]
  rfl
include hn hf h80 in
theorem edges_ok {g : graph_Graph} (h1 : g.succ.length = f.blocks.length) (h2 : ∀ j : Nat, j < f.blocks.length → g.succ[j]? = some (TT f j)) : p_graph_Graph_Edges fuel g = some (EB f f.blocks.length) := by
  have hn1 := hn.1
  unfold p_graph_Graph_Edges p_graph_Graph_Len
  simp only [h1, Option.bind_some]
  refine Or.elim (loopE_inv (fun q : Int × List (A2 Int) => ∃ x : Nat, q.1 = x ∧ x ≤ f.blocks.length ∧ q.2 = EB f x) (fun q => q.2 = EB f f.blocks.length) (fun _ : List (A2 Int) => False) (fun q => f.blocks.length - q.1.toNat)
    (fun s => p_graph_Graph_Edges_b1 fuel g f.blocks.length s.1 s.2) ?_ fuel (0, []) ⟨0, rfl, by omega, rfl⟩ (by simp; omega)) ?_ ?_
  rotate_left
  · rintro ⟨⟨z, out⟩, k1, k2⟩
    rw [k1]
    simp only at k2
    rw [← k2]
    rfl
  · rintro ⟨v, _, h⟩; exact h.elim
  · rintro ⟨q, out⟩ ⟨x, hq, hx, ho⟩
    simp only at hq ho
    subst hq; subst ho
    show (∃ s', p_graph_Graph_Edges_b1 fuel g f.blocks.length (x : Int) (EB f x) = some (.n s') ∧ _) ∨ (∃ s', p_graph_Graph_Edges_b1 fuel g f.blocks.length (x : Int) (EB f x) = some (.b s') ∧ _) ∨ _
    unfold p_graph_Graph_Edges_b1
    by_cases hlt : x < f.blocks.length
    · left
      have hlt' : (x : Int) < (f.blocks.length : Int) := by omega
      have hql := QQ_len f x f.blocks.length
      have hel := EB_len h80 x
      simp only [hlt', decide_true, if_true, gsucc_ok hn hf h1 h2 hlt, Option.bind_some, sort_ok hn]
      refine Or.elim (loopE_inv (fun q : Int × List (A2 Int) => ∃ y : Nat, q.1 = y ∧ y ≤ (QQ f x f.blocks.length).length ∧ q.2 = EB f x ++ ((QQ f x f.blocks.length).take y).map (fun j => (⟨(x : Int), j⟩ : A2 Int))) (fun q => q.2 = EB f (x + 1)) (fun _ : Ex (Int × List (A2 Int)) (List (A2 Int)) => False) (fun q => (QQ f x f.blocks.length).length - q.1.toNat)
        (fun s => p_graph_Graph_Edges_b2 fuel x (QQ f x f.blocks.length) s.1 s.2) ?_ fuel (0, EB f x) ⟨0, rfl, by omega, by simp⟩ (by simp; omega)) ?_ ?_
      rotate_left
      · rintro ⟨⟨z, out⟩, k1, k2⟩
        rw [k1]
        simp only at k2
        subst k2
        refine ⟨_, rfl, ⟨x + 1, wrap1 (by omega), by omega, rfl⟩, ?_⟩
        show f.blocks.length - (IntKind.i64.wrap ((x : Int) + 1)).toNat < f.blocks.length - ((x : Int)).toNat
        rw [wrap1 (by omega)]; omega
      · rintro ⟨v, _, h⟩; exact h.elim
      · rintro ⟨q, out⟩ ⟨y, hq, hy, ho⟩
        simp only at hq ho
        subst hq; subst ho
        show (∃ s', p_graph_Graph_Edges_b2 fuel x (QQ f x f.blocks.length) (y : Int) _ = some (.n s') ∧ _) ∨ (∃ s', p_graph_Graph_Edges_b2 fuel x (QQ f x f.blocks.length) (y : Int) _ = some (.b s') ∧ _) ∨ _
        unfold p_graph_Graph_Edges_b2
        by_cases hl : y < (QQ f x f.blocks.length).length
        · left
          obtain ⟨r, hr⟩ := getAt hl
          have hl' : (y : Int) < ((QQ f x f.blocks.length).length : Int) := by omega
          have ha : app (EB f x ++ ((QQ f x f.blocks.length).take y).map (fun j => (⟨(x : Int), j⟩ : A2 Int))) [(⟨(x : Int), r⟩ : A2 Int)] = some (EB f x ++ ((QQ f x f.blocks.length).take y).map (fun j => (⟨(x : Int), j⟩ : A2 Int)) ++ [(⟨(x : Int), r⟩ : A2 Int)]) := app_ok (by simp; omega)
          simp only [hl', decide_true, if_true, idx_nat hr, Option.bind_some, ha]
          refine ⟨_, rfl, ⟨y + 1, wrap1 (by omega), by omega, ?_⟩, ?_⟩
          · rw [List.take_add_one, hr]; simp
          · show (QQ f x f.blocks.length).length - (IntKind.i64.wrap ((y : Int) + 1)).toNat < (QQ f x f.blocks.length).length - ((y : Int)).toNat
            rw [wrap1 (by omega)]; omega
        · right; left
          have hl' : ¬ ((y : Int) < ((QQ f x f.blocks.length).length : Int)) := by omega
          simp only [hl', decide_false, Bool.false_eq_true, if_false]
          refine ⟨_, rfl, ?_⟩
          show _ = EB f x ++ _
          rw [List.take_of_length_le (by omega)]
    · right; left
      have hlt' : ¬ ((x : Int) < (f.blocks.length : Int)) := by omega
      simp only [hlt', decide_false, Bool.false_eq_true, if_false]
      refine ⟨_, rfl, ?_⟩
      have : x = f.blocks.length := by omega
      subst this
      rfl
end
end Go.Proofs.Ytodafoajkajnkaa.PL
