/- Plain facts about the pure functions: the order of blocks, by a pile and by recursion. -/
import Derived.Test.YtodafoajkajnkaaPT1
set_option linter.unusedVariables false
set_option linter.unusedSectionVars false
set_option linter.unusedSimpArgs false
namespace Go.Proofs.Ytodafoajkajnkaa.PL
open Go

def PT (f : Fnc) (a b : Nat) : Prop := Path (EE f) (okk (-1)) a b
theorem okk_all (a : Nat) : okk (-1) a := by unfold okk; omega
/-- The pile's round. -/
def pst (fuel : Nat) (g : graph_Graph) (s : Int × List Int × List (A2 Int) × List Int) : Option (Ex (Int × List Int × List (A2 Int) × List Int) (List Int)) := p_graph_Graph_post_b1 fuel g s.1 s.2.1 s.2.2.1 s.2.2.2

structure Got (f : Fnc) (s s' : bits_Set) (seen' : List Bool) (v : Nat) : Prop where
  V : bV s' f.blocks.length
  l : seen'.length = f.blocks.length
  rel : ∀ j, j < f.blocks.length → (SS seen' j ↔ bH s' j = true)
  up : ∀ j, bH s j = true → bH s' j = true
  r1 : ∀ j, bH s' j = true → bH s j = true ∨ PT f v j
  r2 : ∀ j, bH s' j = true → bH s j = false → ∀ c, EE f j c → bH s' c = true

section
variable {f : Fnc} (hn : fOk f) {fuel : Nat} {g : graph_Graph} (h2 : ∀ j : Nat, j < f.blocks.length → g.succ[j]? = some (TT f j))

theorem top_wrap {α : Type} (st : List α) (a : α) (h : st.length ≤ 4294967) : IntKind.wrap .i64 (((st ++ [a]).length : Int) - 1) = (st.length : Int) := by
  rw [wrap_in (by simp) (by simp; omega)]; simp
theorem top_idx {α : Type} (st : List α) (a : α) : idx (st ++ [a]) (st.length : Int) = some a := idx_nat (by simp)
theorem top_set {α : Type} (st : List α) (a b : α) : setI (st ++ [a]) (st.length : Int) b = some (st ++ [b]) := by
  rw [setI_nat (by simp)]
  rw [List.set_append]
  simp
theorem top_cut {α : Type} (st : List α) (a : α) : sli (st ++ [a]) 0 (st.length : Int) = some st := by
  unfold sli
  rw [if_pos (by simp; omega)]
  simp
include h2 in
theorem pst_pop {s : bits_Set} {v : Nat} {st : List (A2 Int)} {out : List Int} (hv : v < f.blocks.length) (hst : st.length ≤ 4294967) (ho : out.length ≤ 4294967) :
    pst fuel g (s.n, s.words, st ++ [⟨(v : Int), ((TT f v).length : Int)⟩], out) = some (.n (s.n, s.words, st, out ++ [(v : Int)])) := by
  have hp : (0 : Int) < ((st ++ [(⟨(v : Int), ((TT f v).length : Int)⟩ : A2 Int)]).length : Int) := by simp
  have ha : app out [(v : Int)] = some (out ++ [(v : Int)]) := app_ok (by simp; omega)
  show p_graph_Graph_post_b1 fuel g s.n s.words (st ++ [⟨(v : Int), ((TT f v).length : Int)⟩]) out = _
  unfold p_graph_Graph_post_b1
  simp only [hp, decide_true, if_true, top_wrap st _ hst, top_idx, Option.bind_some, idx_nat (h2 v hv), top_cut, ha]
include hn h2 in
theorem pst_old {s : bits_Set} {v c y : Nat} {st : List (A2 Int)} {out : List Int} (hV : bV s f.blocks.length) (hv : v < f.blocks.length) (hst : st.length ≤ 4294967) (hc : (TT f v)[y]? = some (c : Int)) (hb : bH s c = true) :
    pst fuel g (s.n, s.words, st ++ [⟨(v : Int), (y : Int)⟩], out) = some (.n (s.n, s.words, st ++ [⟨(v : Int), ((y + 1 : Nat) : Int)⟩], out)) := by
  have hn1 := hn.1
  have hl := TT_len hn v
  have hy := (List.getElem?_eq_some_iff.1 hc).1
  have hp : (0 : Int) < ((st ++ [(⟨(v : Int), (y : Int)⟩ : A2 Int)]).length : Int) := by simp
  have hne : ¬ ((y : Int) = ((TT f v).length : Int)) := by omega
  show p_graph_Graph_post_b1 fuel g s.n s.words (st ++ [⟨(v : Int), (y : Int)⟩]) out = _
  unfold p_graph_Graph_post_b1 p_graph_Graph_post_1
  have hadd : p_bits_Set_Add fuel (⟨s.n, s.words⟩ : bits_Set) (c : Int) = some (false, s) := by
    rcases add_ok hV (by omega) fuel (c : Int) with ⟨k1, _⟩ | ⟨k, s', k1, _, k3, _⟩
    · exact k1
    · have : c = k := by omega
      subst this; rw [hb] at k3; cases k3
  simp only [hp, decide_true, if_true, top_wrap st _ hst, top_idx, Option.bind_some, idx_nat (h2 v hv), hne, decide_false, Bool.false_eq_true, if_false, top_set, idx_nat hc, hadd, wrap1 (show y ≤ 4294967296 by omega)]
include hn h2 in
theorem pst_new {s : bits_Set} {v c y : Nat} {st : List (A2 Int)} {out : List Int} (hV : bV s f.blocks.length) (hv : v < f.blocks.length) (hst : st.length ≤ 4294967) (hc : (TT f v)[y]? = some (c : Int)) (hb : bH s c = false) :
    ∃ s1, pst fuel g (s.n, s.words, st ++ [⟨(v : Int), (y : Int)⟩], out) = some (.n (s1.n, s1.words, (st ++ [⟨(v : Int), ((y + 1 : Nat) : Int)⟩]) ++ [⟨(c : Int), ((0 : Nat) : Int)⟩], out)) ∧ bV s1 f.blocks.length ∧ ∀ j, bH s1 j = (bH s j || decide (j = c)) := by
  have hn1 := hn.1
  have hl := TT_len hn v
  have hy := (List.getElem?_eq_some_iff.1 hc).1
  have hcn : c < f.blocks.length := TT_lt hn (List.mem_of_getElem? hc)
  have hp : (0 : Int) < ((st ++ [(⟨(v : Int), (y : Int)⟩ : A2 Int)]).length : Int) := by simp
  have hne : ¬ ((y : Int) = ((TT f v).length : Int)) := by omega
  rcases add_ok hV (by omega) fuel (c : Int) with ⟨_, k2⟩ | ⟨k, s1, k1, _, k3, k4, k5, k6⟩
  · have := k2 c rfl hcn
    rw [hb] at this; cases this
  · have : k = c := by omega
    subst this
    refine ⟨s1, ?_, k5, k6⟩
    show p_graph_Graph_post_b1 fuel g s.n s.words (st ++ [⟨(v : Int), (y : Int)⟩]) out = _
    unfold p_graph_Graph_post_b1 p_graph_Graph_post_1
    have ha : app (st ++ [(⟨(v : Int), ((y + 1 : Nat) : Int)⟩ : A2 Int)]) [(⟨(k : Int), 0⟩ : A2 Int)] = some ((st ++ [(⟨(v : Int), ((y + 1 : Nat) : Int)⟩ : A2 Int)]) ++ [(⟨(k : Int), 0⟩ : A2 Int)]) := app_ok (by simp; omega)
    simp only [hp, decide_true, if_true, top_wrap st _ hst, top_idx, Option.bind_some, idx_nat (h2 v hv), hne, decide_false, Bool.false_eq_true, if_false, top_set, idx_nat hc, k4, wrap1 (show y ≤ 4294967296 by omega), ha]
    rfl
theorem loop_one {σ ρ : Type} {m : Nat} {f : σ → Option (Ex σ ρ)} {s s' : σ} (h : f s = some (.n s')) : loopE (1 + m) f s = loopE m f s' := by
  rw [Nat.add_comm, loopE, h]
  rfl

/-- What a walk from a block does: by recursion, and by the pile. -/
def Node (f : Fnc) (fuel : Nat) (g : graph_Graph) (d : Nat) : Prop := ∀ (v : Nat) (s : bits_Set) (seen : List Bool) (st : List (A2 Int)) (out : List Int), v < f.blocks.length → bV s f.blocks.length → bH s v = true → seen.length = f.blocks.length →
  (∀ j, j < f.blocks.length → (SS (seen.set v true) j ↔ bH s j = true)) → cN (bH s) f.blocks.length < d → out.length + cN (bH s) f.blocks.length + 1 ≤ 4000000 → st.length + cN (bH s) f.blocks.length + 1 ≤ 4000000 →
  ∃ (o : List Int) (seen' : List Bool) (s' : bits_Set) (N : Nat), p_dyehouseref19_walk d (f.blocks.map (tg f)) v seen out = some (out ++ o, seen') ∧
    (∀ m, loopE (N + m) (pst fuel g) (s.n, s.words, st ++ [⟨(v : Int), ((0 : Nat) : Int)⟩], out) = loopE m (pst fuel g) (s'.n, s'.words, st, out ++ o)) ∧
    Got f s s' seen' v ∧ (∀ c, EE f v c → bH s' c = true) ∧ N + 1048578 * cN (bH s') f.blocks.length ≤ 1048578 * cN (bH s) f.blocks.length + 1048578 ∧ o.length + cN (bH s') f.blocks.length ≤ cN (bH s) f.blocks.length + 1 ∧
    (∀ r ∈ o, ∃ k : Nat, r = k ∧ k < f.blocks.length) ∧ ∀ k : Nat, (k : Int) ∈ o ↔ k = v ∨ (bH s' k = true ∧ bH s k = false)

include hn h2 in
theorem inner {d : Nat} (D : Node f fuel g d) {v : Nat} (hv : v < f.blocks.length) : ∀ (r y : Nat), y + r = (TT f v).length → ∀ (s : bits_Set) (seen : List Bool) (st : List (A2 Int)) (out : List Int), bV s f.blocks.length → bH s v = true → seen.length = f.blocks.length →
    (∀ j, j < f.blocks.length → (SS seen j ↔ bH s j = true)) → cN (bH s) f.blocks.length ≤ d → out.length + cN (bH s) f.blocks.length ≤ 4000000 → st.length + cN (bH s) f.blocks.length + 1 ≤ 4000000 →
    ∃ (o : List Int) (seen' : List Bool) (s' : bits_Set) (N : Nat), forN r (y : Int) (fun i s => p_dyehouseref19_walk_b1 d (p_dyehouseref19_walk d) (f.blocks.map (tg f)) (TT f v) i s.1 s.2) (seen, out) = some (seen', out ++ o) ∧
      (∀ m, loopE (N + m) (pst fuel g) (s.n, s.words, st ++ [⟨(v : Int), (y : Int)⟩], out) = loopE m (pst fuel g) (s'.n, s'.words, st ++ [⟨(v : Int), ((TT f v).length : Int)⟩], out ++ o)) ∧
      Got f s s' seen' v ∧ (∀ z, y ≤ z → ∀ c : Nat, (TT f v)[z]? = some (c : Int) → bH s' c = true) ∧ N + 1048578 * cN (bH s') f.blocks.length ≤ 1048578 * cN (bH s) f.blocks.length + r ∧ o.length + cN (bH s') f.blocks.length ≤ cN (bH s) f.blocks.length ∧
      (∀ r ∈ o, ∃ k : Nat, r = k ∧ k < f.blocks.length) ∧ ∀ k : Nat, (k : Int) ∈ o ↔ (bH s' k = true ∧ bH s k = false) := by
  intro r
  induction r with
  | zero =>
    intro y hy s seen st out hV hb hl hR hd ho hst
    have hyl : y = (TT f v).length := by omega
    refine ⟨[], seen, s, 0, by simp [forN], ?_, ⟨hV, hl, hR, fun _ h => h, fun _ h => .inl h, fun j h k => by rw [h] at k; cases k⟩, ?_, by omega, by simp, by simp, ?_⟩
    · intro m; rw [Nat.zero_add, List.append_nil, hyl]
    · intro z hz c hc
      have := (List.getElem?_eq_some_iff.1 hc).1
      omega
    · intro k
      constructor
      · intro h; cases h
      · rintro ⟨h, k⟩; rw [h] at k; cases k
  | succ r ih =>
    intro y hy s seen st out hV hb hl hR hd ho hst
    obtain ⟨x, hx⟩ := getAt (xs := TT f v) (i := y) (by omega)
    obtain ⟨hx0, hx1⟩ := TT_in hn (List.mem_of_getElem? hx)
    obtain ⟨c, rfl⟩ := Int.eq_ofNat_of_zero_le hx0
    have hcn : c < f.blocks.length := by omega
    have hE : EE f v c := List.mem_of_getElem? hx
    obtain ⟨b, hb1⟩ := getAt (xs := seen) (i := c) (by omega)
    cases hbc : bH s c with
    | true =>
      have hS : SS seen c := (hR c hcn).2 hbc
      have hb2 : b = true := by unfold SS at hS; rw [hb1] at hS; exact Option.some.inj hS
      subst hb2
      obtain ⟨o, seen', s', N, k1, k2, k3, k4, k5, k6, k7, k8⟩ := ih (y + 1) (by omega) s seen st out hV hb hl hR hd ho hst
      refine ⟨o, seen', s', 1 + N, ?_, ?_, k3, ?_, by omega, k6, k7, k8⟩
      · rw [forN]
        have : p_dyehouseref19_walk_b1 d (p_dyehouseref19_walk d) (f.blocks.map (tg f)) (TT f v) (y : Int) seen out = some (seen, out) := by
          simp [p_dyehouseref19_walk_b1, idx_nat hx, idx_nat hb1]
        simp only [this, Option.bind_some]
        exact k1
      · intro m
        rw [Nat.add_assoc, loop_one (pst_old hn h2 hV hv (by omega) hx hbc)]
        exact k2 m
      · intro z hz c' hc'
        by_cases e : z = y
        · subst e; rw [hx] at hc'; have := Option.some.inj hc'
          have : c = c' := by omega
          subst this; exact k3.up c hbc
        · exact k4 z (by omega) c' hc'
    | false =>
      have hb2 : b = false := by
        cases b with
        | false => rfl
        | true => have := (hR c hcn).1 hb1; rw [hbc] at this; cases this
      subst hb2
      obtain ⟨s1, p1, p2, p3⟩ := pst_new (fuel := fuel) hn h2 (st := st) (out := out) hV hv (by omega) hx hbc
      have hcnt := cN_add hcn hbc p3
      have up1 : ∀ j, bH s j = true → bH s1 j = true := fun j h => by rw [p3 j, h]; rfl
      have hc1 : bH s1 c = true := by rw [p3 c]; simp
      obtain ⟨o1, seen1, s2, N1, a1, a2, a3, a4, a5, a6, a7, a8⟩ := D c s1 seen (st ++ [⟨(v : Int), ((y + 1 : Nat) : Int)⟩]) out hcn p2 hc1 hl (by
        intro j hj
        by_cases e : j = c
        · subst e
          constructor
          · intro _; exact hc1
          · intro _; exact List.getElem?_set_self (by omega)
        · unfold SS
          rw [List.getElem?_set_ne (by omega), p3 j]
          have := hR j hj
          unfold SS at this
          simp [e, this]) (by omega) (by omega) (by simp; omega)
      have hle : cN (bH s2) f.blocks.length ≤ cN (bH s1) f.blocks.length ∨ True := .inr trivial
      have hv2 : bH s2 v = true := a3.up v (up1 v hb)
      have hcle : cN (bH s2) f.blocks.length ≤ cN (bH s1) f.blocks.length := by
        have : ∀ n, cN (bH s2) n ≤ cN (bH s1) n := by
          intro n
          induction n with
          | zero => simp [cN]
          | succ n ih =>
            simp only [cN]
            by_cases e : bH s1 n = true
            · have := a3.up n e; simp [e, this]; exact ih
            · simp only [e]; split <;> simp <;> omega
        exact this _
      obtain ⟨o, seen', s', N, k1, k2, k3, k4, k5, k6, k7, k8⟩ := ih (y + 1) (by omega) s2 seen1 st (out ++ o1) a3.V hv2 a3.l a3.rel (by omega) (by simp; omega) (by omega)
      refine ⟨o1 ++ o, seen', s', 1 + N1 + N, ?_, ?_, ⟨k3.V, k3.l, k3.rel, fun j h => k3.up j (a3.up j (up1 j h)), ?_, ?_⟩, ?_, by omega, by simp; omega, ?_, ?_⟩
      · rw [forN]
        have : p_dyehouseref19_walk_b1 d (p_dyehouseref19_walk d) (f.blocks.map (tg f)) (TT f v) (y : Int) seen out = some (seen1, out ++ o1) := by
          simp [p_dyehouseref19_walk_b1, idx_nat hx, idx_nat hb1, a1]
        simp only [this, Option.bind_some]
        rw [← List.append_assoc]
        exact k1
      · intro m
        rw [Nat.add_assoc, Nat.add_assoc, loop_one p1, a2, ← List.append_assoc]
        exact k2 m
      · intro j hj
        rcases k3.r1 j hj with h | h
        · rcases a3.r1 j h with h | h
          · rw [p3 j] at h
            by_cases e : j = c
            · subst e; exact .inr (.step (okk_all _) hE (.one (okk_all _)))
            · exact .inl (by simpa [e] using h)
          · exact .inr (.step (okk_all _) hE h)
        · exact .inr h
      · intro j hj hj0 c' hc'
        cases h2j : bH s2 j with
        | true =>
          cases h1j : bH s1 j with
          | true =>
            rw [p3 j, hj0] at h1j
            have : j = c := by simpa using h1j
            subst this
            exact k3.up c' (a4 c' hc')
          | false => exact k3.up c' (a3.r2 j h2j h1j c' hc')
        | false => exact k3.r2 j hj h2j c' hc'
      · intro z hz c' hc'
        by_cases e : z = y
        · subst e; rw [hx] at hc'; have := Option.some.inj hc'
          have : c = c' := by omega
          subst this; exact k3.up c (a3.up c hc1)
        · exact k4 z (by omega) c' hc'
      · intro q hq
        rcases List.mem_append.1 hq with hq | hq
        · exact a7 q hq
        · exact k7 q hq
      · intro k
        rw [List.mem_append, a8, k8]
        constructor
        · rintro ((rfl | ⟨h, h'⟩) | ⟨h, h'⟩)
          · exact ⟨k3.up _ (a3.up _ hc1), hbc⟩
          · refine ⟨k3.up _ h, ?_⟩
            rw [p3 k] at h'
            cases hh : bH s k
            · rfl
            · rw [hh] at h'; cases h'
          · refine ⟨h, ?_⟩
            cases hh : bH s k
            · rfl
            · rw [a3.up k (up1 k hh)] at h'; cases h'
        · rintro ⟨h, h'⟩
          cases h2k : bH s2 k with
          | false => exact .inr ⟨h, rfl⟩
          | true =>
            left
            by_cases e : k = c
            · exact .inl e
            · exact .inr ⟨rfl, by rw [p3 k, h']; simp [e]⟩
include hn h2 in
theorem node (d : Nat) : Node f fuel g d := by
  induction d with
  | zero => intro v s seen st out _ _ _ _ _ h; omega
  | succ d ih =>
    intro v s seen st out hv hV hb hl hR hd ho hst
    have hlen := TT_len hn v
    obtain ⟨x, hx⟩ := getAt (xs := seen) (i := v) (by omega)
    obtain ⟨o, seen', s', N, k1, k2, k3, k4, k5, k6, k7, k8⟩ := inner hn h2 ih hv (TT f v).length 0 (by omega) s (seen.set v true) st out hV hb (by simpa using hl) hR (by omega) (by omega) (by omega)
    have hset : setI seen (v : Int) true = some (seen.set v true) := setI_nat (by omega)
    have ha : app (out ++ o) [(v : Int)] = some (out ++ o ++ [(v : Int)]) := app_ok (by simp; omega)
    refine ⟨o ++ [(v : Int)], seen', s', N + 1, ?_, ?_, k3, ?_, by omega, by simp; omega, ?_, ?_⟩
    · unfold p_dyehouseref19_walk
      have ht : toN 0 ((TT f v).length : Int) (fun i s => p_dyehouseref19_walk_b1 d (p_dyehouseref19_walk d) (f.blocks.map (tg f)) (TT f v) i s.1 s.2) (seen.set v true, out) = some (seen', out ++ o) := by
        unfold toN
        rw [if_pos (by constructor <;> omega)]
        simpa using k1
      simp only [idx_nat hx, Option.bind_some, hset, idx_nat (TT_at hv), ht, ha, List.append_assoc]
    · intro m
      rw [Nat.add_assoc, k2, loop_one (pst_pop h2 hv (by omega) (by simp; omega)), List.append_assoc]
    · intro c hc
      obtain ⟨z, hz⟩ := List.getElem?_of_mem hc
      exact k4 z (by omega) c hz
    · intro q hq
      rcases List.mem_append.1 hq with hq | hq
      · exact k7 q hq
      · exact ⟨v, List.mem_singleton.1 hq, hv⟩
    · intro k
      rw [List.mem_append, k8, List.mem_singleton]
      constructor
      · rintro (h | h)
        · exact .inr h
        · exact .inl (by omega)
      · rintro (h | h)
        · exact .inr (by omega)
        · exact .inl h
include hn h2 in
theorem post_ok (hg : g.succ.length = f.blocks.length) (h80 : f.blocks.length ≤ 80) (hf : 100000000 < fuel) (h0 : 0 < f.blocks.length) :
    ∃ (o : List Int) (seen' : List Bool), p_graph_Graph_post fuel g = some o ∧ p_dyehouseref19_walk fuel (f.blocks.map (tg f)) 0 (List.replicate f.blocks.length false) [] = some (o, seen') ∧ o.length ≤ 81 ∧
      (∀ r ∈ o, ∃ k : Nat, r = k ∧ k < f.blocks.length) ∧ ∀ k : Nat, (k : Int) ∈ o ↔ PT f 0 k := by
  have hn1 := hn.1
  obtain ⟨s0, e0, hV0, hB0⟩ := new_ok (n := f.blocks.length) (by omega) fuel
  rcases add_ok hV0 (by omega) fuel 0 with ⟨_, k2⟩ | ⟨k, s1, k1, _, k3, k4, k5, k6⟩
  · have := k2 0 rfl h0
    rw [hB0] at this; cases this
  · have : k = 0 := by omega
    subst this
    have hc1 : bH s1 0 = true := by rw [k6 0]; simp
    have hcle := cN_le (bH s1) f.blocks.length
    obtain ⟨o, seen', s', N, a1, a2, a3, a4, a5, a6, a7, a8⟩ := node (fuel := fuel) hn h2 fuel 0 s1 (List.replicate f.blocks.length false) [] [] h0 k5 hc1 (by simp) (by
      intro j hj
      rw [k6 j, hB0 j]
      unfold SS
      by_cases e : j = 0
      · subst e; rw [List.getElem?_set_self (by simpa using h0)]; simp
      · rw [List.getElem?_set_ne (by omega), List.getElem?_replicate]; simp [hj, e]) (by omega) (by simp; omega) (by simp; omega)
    refine ⟨o, seen', ?_, by simpa using a1, by omega, a7, ?_⟩
    · unfold p_graph_Graph_post p_graph_Graph_Len p_graph_Graph_post_1
      have ha : app [] [(⟨0, 0⟩ : A2 Int)] = some ([] ++ [(⟨0, 0⟩ : A2 Int)]) := app_ok (by simp)
      simp only [hg, Option.bind_some, e0, k4, if_true, ha]
      obtain ⟨m, hm⟩ : ∃ m, fuel = N + (m + 1) := ⟨fuel - N - 1, by omega⟩
      have hl : loopE fuel (pst fuel g) (s1.n, s1.words, [] ++ [(⟨0, 0⟩ : A2 Int)], []) = some (.n (s'.n, s'.words, [], o)) := by
        have := a2 (m + 1)
        rw [← hm] at this
        refine this.trans ?_
        rw [loopE]
        simp [pst, p_graph_Graph_post_b1]
      show bindE (loopE fuel (pst fuel g) (s1.n, s1.words, [] ++ [(⟨0, 0⟩ : A2 Int)], [])) _ _ = _
      rw [hl]
      rfl
    · intro k
      rw [a8]
      have hb : bH s' k = true ↔ PT f 0 k := by
        constructor
        · intro h
          rcases a3.r1 k h with h | h
          · rw [k6 k, hB0 k] at h
            have : k = 0 := by simpa using h
            subst this
            exact .one (okk_all _)
          · exact h
        · intro h
          refine h.closed (C := fun j => bH s' j = true) ?_ (a3.up 0 hc1)
          intro a b ha hE _
          cases h1a : bH s1 a with
          | true =>
            rw [k6 a, hB0 a] at h1a
            have : a = 0 := by simpa using h1a
            subst this
            exact a4 b hE
          | false => exact a3.r2 a ha h1a b hE
      rw [← hb]
      constructor
      · rintro (rfl | ⟨h, _⟩)
        · exact a3.up 0 hc1
        · exact h
      · intro h
        by_cases e : k = 0
        · exact .inl e
        · exact .inr ⟨h, by rw [k6 k, hB0 k]; simp [e]⟩
end
end Go.Proofs.Ytodafoajkajnkaa.PL
