/- Plain facts about the pure functions: the graph's Away, and the law GraphAway. -/
import Derived.Test.YtodafoajkajnkaaPA4
set_option linter.unusedVariables false
set_option linter.unusedSectionVars false
set_option linter.unusedSimpArgs false
namespace Go.Proofs.Ytodafoajkajnkaa.PL
open Go

def cN (p : Nat → Bool) : Nat → Nat
  | 0 => 0
  | n + 1 => cN p n + if p n = true then 0 else 1
theorem cN_le (p : Nat → Bool) (n : Nat) : cN p n ≤ n := by
  induction n with
  | zero => simp [cN]
  | succ n ih => simp only [cN]; split <;> omega
theorem cN_same {p q : Nat → Bool} {n : Nat} (h : ∀ j < n, q j = p j) : cN q n = cN p n := by
  induction n with
  | zero => rfl
  | succ n ih => simp only [cN]; rw [ih fun j hj => h j (by omega), h n (by omega)]
theorem cN_add {p q : Nat → Bool} {n k : Nat} (hk : k < n) (hp : p k = false) (h : ∀ j, q j = (p j || decide (j = k))) : cN q n + 1 = cN p n := by
  induction n with
  | zero => omega
  | succ n ih =>
    simp only [cN]
    by_cases e : k = n
    · subst e
      rw [cN_same (p := p) (q := q) (n := k) (fun j hj => by rw [h j]; simp; omega)]
      have : q k = true := by rw [h k]; simp
      simp [hp, this]
    · have hq : q n = p n := by rw [h n]; have : n ≠ k := fun c => e c.symm; simp [this]
      rw [hq]
      have := ih (by omega)
      omega

theorem away_1 {s : bits_Set} {n : Nat} (hV : bV s n) (hn : n ≤ 4294967296) (fuel : Nat) (i wo : Int) {st : List Int} (hst : st.length ≤ 4294967) :
    (p_graph_Graph_Away_1 fuel i wo s st = some (s, st) ∧ ∀ k : Nat, i = k → k < n → okk wo k → bH s k = true) ∨
    ∃ (k : Nat) (s' : bits_Set), i = k ∧ k < n ∧ okk wo k ∧ bH s k = false ∧ p_graph_Graph_Away_1 fuel i wo s st = some (s', st ++ [(k : Int)]) ∧ bV s' n ∧ ∀ j, bH s' j = (bH s j || decide (j = k)) := by
  unfold p_graph_Graph_Away_1
  by_cases c : i = wo
  · left
    refine ⟨by simp [c], ?_⟩
    intro k hk _ hok
    exact absurd (hk.symm.trans c) hok
  · rcases add_ok hV hn fuel i with ⟨h1, h2⟩ | ⟨k, s', h1, h2, h3, h4, h5, h6⟩
    · left
      refine ⟨?_, fun k hk hkn _ => h2 k hk hkn⟩
      simp [c, h1]
    · right
      subst h1
      refine ⟨k, s', rfl, h2, c, h3, ?_, h5, h6⟩
      have ha : app st [(k : Int)] = some (st ++ [(k : Int)]) := app_ok (by simp; omega)
      simp only [ne_eq, c, not_false_eq_true, decide_true, if_true, h4, Option.bind_some, ha]

section
variable {f : Fnc} (hn : fOk f) {fuel : Nat} (hf : 2097152 < fuel) {wo : Int} {to_ : Int}
/-- What is reached backward from a block. -/
def DD (f : Fnc) (wo to_ : Int) (k : Nat) : Prop := ∃ t : Nat, to_ = t ∧ t < f.blocks.length ∧ Path (EE f) (okk wo) k t
structure AI (f : Fnc) (wo to_ : Int) (s : bits_Set) (st : List Int) (X : Nat → Prop) (M : Nat) : Prop where
  v : bV s f.blocks.length
  i : ∀ r ∈ st, ∃ k : Nat, r = k ∧ k < f.blocks.length ∧ bH s k = true
  d : ∀ k, bH s k = true → DD f wo to_ k
  p : ∀ k, bH s k = true → (k : Int) ∉ st → ¬ X k → ∀ a, EE f a k → okk wo a → bH s a = true
  m : st.length + cN (bH s) f.blocks.length = M
  t : ∀ k : Nat, to_ = k → k < f.blocks.length → okk wo k → bH s k = true

theorem AI_push {s s' : bits_Set} {st : List Int} {X : Nat → Prop} {M : Nat} {k : Nat} (h : AI f wo to_ s st X M) (hk : k < f.blocks.length) (hb : bH s k = false) (hD : DD f wo to_ k) (hV : bV s' f.blocks.length) (hs : ∀ j, bH s' j = (bH s j || decide (j = k))) :
    AI f wo to_ s' (st ++ [(k : Int)]) X M := by
  have up : ∀ j, bH s j = true → bH s' j = true := fun j hj => by rw [hs j, hj]; rfl
  refine ⟨hV, ?_, ?_, ?_, ?_, fun j h1 h2 h3 => up j (h.t j h1 h2 h3)⟩
  · intro r hr
    rcases List.mem_append.1 hr with hr | hr
    · obtain ⟨j, h1, h2, h3⟩ := h.i r hr
      exact ⟨j, h1, h2, up j h3⟩
    · exact ⟨k, List.mem_singleton.1 hr, hk, by rw [hs k]; simp⟩
  · intro j hj
    by_cases e : j = k
    · subst e; exact hD
    · rw [hs j] at hj; exact h.d j (by simpa [e] using hj)
  · intro j hj hst hX a hE hok
    by_cases e : j = k
    · subst e; exact absurd (List.mem_append.2 (.inr (List.mem_singleton.2 rfl))) hst
    · rw [hs j] at hj
      exact up a (h.p j (by simpa [e] using hj) (fun c => hst (List.mem_append.2 (.inl c))) hX a hE hok)
  · have := cN_add hk hb hs
    have := h.m
    simp
    omega

include hn hf in
theorem away_b2 {s : bits_Set} {st : List Int} {x M : Nat} (hx : x < f.blocks.length) (hM : M ≤ 1048576) (h : AI f wo to_ s st (· = x) M) (hD : DD f wo to_ x) (hb : bH s x = true) :
    ∃ s' st' z, loopE fuel (fun s => p_graph_Graph_Away_b2 fuel wo (PP f f.blocks.length x) s.1 s.2.1 s.2.2.1 s.2.2.2) (s.n, s.words, st, 0) = some (.n (s'.n, s'.words, st', z)) ∧ AI f wo to_ s' st' (fun _ => False) M := by
  have hn1 := hn.1
  have hl := PP_len f f.blocks.length x
  refine Or.elim (loopE_inv (fun q : Int × List Int × List Int × Int => ∃ y : Nat, q.2.2.2 = y ∧ y ≤ (PP f f.blocks.length x).length ∧ AI f wo to_ ⟨q.1, q.2.1⟩ q.2.2.1 (· = x) M ∧ ∀ z < y, ∀ j : Nat, (PP f f.blocks.length x)[z]? = some (j : Int) → okk wo j → bH ⟨q.1, q.2.1⟩ j = true)
    (fun q => AI f wo to_ ⟨q.1, q.2.1⟩ q.2.2.1 (fun _ => False) M)
    (fun _ : Ex (Int × (List Int) × (List Int)) bits_Set => False) (fun q => (PP f f.blocks.length x).length - q.2.2.2.toNat) (fun s => p_graph_Graph_Away_b2 fuel wo (PP f f.blocks.length x) s.1 s.2.1 s.2.2.1 s.2.2.2) ?_ fuel (s.n, s.words, st, 0)
    ⟨0, rfl, by omega, h, by intro z hz; omega⟩ (by simp; omega)) ?_ ?_
  rotate_left
  · rintro ⟨⟨a, b, st', z⟩, h1, h2⟩
    exact ⟨⟨a, b⟩, st', z, h1, h2⟩
  · rintro ⟨v, _, h⟩; exact h.elim
  · rintro ⟨a, b, st', q⟩ ⟨y, hq, hy, hI, hP⟩
    simp only at hq hI hP
    subst hq
    show (∃ s', p_graph_Graph_Away_b2 fuel wo (PP f f.blocks.length x) a b st' (y : Int) = some (.n s') ∧ _) ∨ (∃ s', p_graph_Graph_Away_b2 fuel wo (PP f f.blocks.length x) a b st' (y : Int) = some (.b s') ∧ _) ∨ _
    unfold p_graph_Graph_Away_b2
    by_cases c : y < (PP f f.blocks.length x).length
    · left
      obtain ⟨r, hr⟩ := getAt c
      obtain ⟨i, rfl, hi, hE⟩ := PP_mem.1 (List.mem_of_getElem? hr)
      have hc : (y : Int) < ((PP f f.blocks.length x).length : Int) := by omega
      have hm : (PP f f.blocks.length x).length - (IntKind.i64.wrap ((y : Int) + 1)).toNat < (PP f f.blocks.length x).length - ((y : Int)).toNat := by rw [wrap1 (by omega)]; omega
      have hsl : st'.length ≤ 4294967 := by have := hI.m; omega
      simp only [hc, decide_true, if_true, idx_nat hr, Option.bind_some]
      rcases away_1 hI.v (by omega) fuel (i : Int) wo hsl with ⟨h1, h2⟩ | ⟨k, s', h1, h2, h3, h4, h5, h6, h7⟩
      · simp only [h1, Option.bind_some]
        refine ⟨_, rfl, ⟨y + 1, wrap1 (by omega), by omega, hI, ?_⟩, hm⟩
        intro z hz j hj hok
        by_cases e : z = y
        · subst e; rw [hr] at hj; have := Option.some.inj hj
          have : j = i := by omega
          subst this; exact h2 j rfl hi hok
        · exact hP z (by omega) j hj hok
      · have hki : k = i := by omega
        subst hki
        simp only [h5, Option.bind_some]
        obtain ⟨t, ht1, ht2, ht3⟩ := hD
        refine ⟨_, rfl, ⟨y + 1, wrap1 (by omega), by omega, AI_push hI h2 h4 ⟨t, ht1, ht2, .step h3 hE ht3⟩ h6 h7, ?_⟩, hm⟩
        intro z hz j hj hok
        by_cases e : z = y
        · subst e; rw [hr] at hj; have := Option.some.inj hj
          have : j = k := by omega
          subst this
          show bH s' j = true
          rw [h7 j]; simp
        · show bH s' j = true
          rw [h7 j, hP z (by omega) j hj hok]; rfl
    · right; left
      have hc : ¬ ((y : Int) < ((PP f f.blocks.length x).length : Int)) := by omega
      simp only [hc, decide_false, Bool.false_eq_true, if_false]
      refine ⟨_, rfl, hI.v, hI.i, hI.d, ?_, hI.m, hI.t⟩
      intro k hk hst _ j hE hok
      by_cases e : k = x
      · subst e
        have : (j : Int) ∈ PP f f.blocks.length k := PP_mem.2 ⟨j, rfl, TT_fst hE, hE⟩
        obtain ⟨z, hz⟩ := List.getElem?_of_mem this
        have := (List.getElem?_eq_some_iff.1 hz).1
        exact hP z (by omega) j hz hok
      · exact hI.p k hk hst e j hE hok
include hn hf in
theorem pred_ok {g : graph_Graph} (h1 : g.succ.length = f.blocks.length) (h2 : ∀ j : Nat, j < f.blocks.length → g.pred[j]? = some (PP f f.blocks.length j)) {x : Nat} (hx : x < f.blocks.length) :
    p_graph_Graph_Pred fuel g x = some (PP f f.blocks.length x) := by
  have hn1 := hn.1
  have hl := PP_len f f.blocks.length x
  have ha : app [] (PP f f.blocks.length x) = some (PP f f.blocks.length x) := by rw [app_ok (by simp; omega)]; rfl
  have c1 : ¬ ((x : Int) < 0) := by omega
  have c2 : ¬ ((f.blocks.length : Int) ≤ (x : Int)) := by omega
  simp [p_graph_Graph_Pred, p_graph_Graph_list, p_graph_Graph_Len, p_slices_Clone_int_int, ix2, A2.at, idx_nat (h2 x hx), ha, h1, c1, c2]
include hn hf in
theorem away_ok {g : graph_Graph} (h1 : g.succ.length = f.blocks.length) (h2 : ∀ j : Nat, j < f.blocks.length → g.pred[j]? = some (PP f f.blocks.length j)) :
    ∃ s, p_graph_Graph_Away fuel g to_ wo = some s ∧ bV s f.blocks.length ∧ ∀ k, bH s k = true ↔ DD f wo to_ k := by
  have hn1 := hn.1
  obtain ⟨s0, e0, hV0, hB0⟩ := new_ok (n := f.blocks.length) (by omega) fuel
  have start : ∃ s st, p_graph_Graph_Away_1 fuel to_ wo s0 [] = some (s, st) ∧ AI f wo to_ s st (fun _ => False) f.blocks.length := by
    have hc0 : cN (bH s0) f.blocks.length = f.blocks.length := by
      have : ∀ n, cN (bH s0) n = n := by
        intro n
        induction n with
        | zero => rfl
        | succ n ih => simp [cN, ih, hB0]
      exact this _
    have base : ∀ (hh : ∀ k : Nat, to_ = k → k < f.blocks.length → okk wo k → bH s0 k = true), AI f wo to_ s0 [] (fun _ => False) f.blocks.length := fun hh =>
      ⟨hV0, by simp, fun k hk => (by rw [hB0 k] at hk; cases hk), fun k hk => (by rw [hB0 k] at hk; cases hk), by simpa using hc0, hh⟩
    rcases away_1 hV0 (by omega) fuel to_ wo (st := []) (by simp) with ⟨k1, k2⟩ | ⟨k, s', k1, k2, k3, k4, k5, k6, k7⟩
    · exact ⟨s0, [], k1, base k2⟩
    · refine ⟨s', [] ++ [(k : Int)], k5, k6, ?_, ?_, ?_, ?_, ?_⟩
      · intro r hr
        exact ⟨k, by simpa using hr, k2, by rw [k7 k]; simp⟩
      · intro j hj
        rw [k7 j, hB0 j] at hj
        have : j = k := by simpa using hj
        subst this
        exact ⟨j, k1, k2, .one k3⟩
      · intro j hj hst
        rw [k7 j, hB0 j] at hj
        have : j = k := by simpa using hj
        subst this
        exact absurd (by simp) hst
      · have := cN_add k2 k4 k7
        simp
        omega
      · intro j hj _ _
        have : j = k := by omega
        subst this
        rw [k7 j]; simp
  obtain ⟨s1, st1, e1, hI1⟩ := start
  unfold p_graph_Graph_Away p_graph_Graph_Len
  simp only [h1, Option.bind_some, e0, e1]
  refine Or.elim (loopE_inv (fun q : Int × List Int × List Int => ∃ M, M ≤ f.blocks.length ∧ AI f wo to_ ⟨q.1, q.2.1⟩ q.2.2 (fun _ => False) M)
    (fun q => ∃ M, AI f wo to_ ⟨q.1, q.2.1⟩ [] (fun _ => False) M)
    (fun _ : bits_Set => False) (fun q => q.2.2.length + cN (bH ⟨q.1, q.2.1⟩) f.blocks.length) (fun s => p_graph_Graph_Away_b1 fuel g wo s.1 s.2.1 s.2.2) ?_ fuel (s1.n, s1.words, st1)
    ⟨_, Nat.le_refl _, hI1⟩ (by have := hI1.m; show st1.length + cN (bH s1) f.blocks.length < fuel; omega)) ?_ ?_
  rotate_left
  · rintro ⟨⟨a, b, st'⟩, k1, M, k2⟩
    rw [k1]
    refine ⟨⟨a, b⟩, rfl, k2.v, fun k => ⟨k2.d k, ?_⟩⟩
    rintro ⟨t, ht1, ht2, ht3⟩
    exact ht3.back (C := fun k => bH ⟨a, b⟩ k = true) (fun x y hy hE hok => k2.p y hy (by simp) id x hE hok) (k2.t t ht1 ht2 ht3.lst)
  · rintro ⟨v, _, h⟩; exact h.elim
  · rintro ⟨a, b, st⟩ ⟨M, hM, hI⟩
    simp only at hI
    show (∃ s', p_graph_Graph_Away_b1 fuel g wo a b st = some (.n s') ∧ _) ∨ (∃ s', p_graph_Graph_Away_b1 fuel g wo a b st = some (.b s') ∧ _) ∨ _
    unfold p_graph_Graph_Away_b1
    rcases List.eq_nil_or_concat st with rfl | ⟨st0, r, rfl⟩
    · right; left
      exact ⟨_, by simp; rfl, M, hI⟩
    · left
      rw [List.concat_eq_append] at hI ⊢
      obtain ⟨x, rfl, hx, hbx⟩ := hI.i r (by simp)
      have hm := hI.m
      rw [List.length_append, List.length_singleton] at hm
      have hl : ((st0 ++ [(x : Int)]).length : Int) = (st0.length : Int) + 1 := by simp
      have hw : IntKind.i64.wrap ((st0.length : Int) + 1 - 1) = (st0.length : Int) := by rw [wrap_in (by omega) (by omega)]; omega
      have hp : (0 : Int) < (st0.length : Int) + 1 := by omega
      have hix : idx (st0 ++ [(x : Int)]) (st0.length : Int) = some (x : Int) := idx_nat (by simp)
      have hsl : sli (st0 ++ [(x : Int)]) 0 (st0.length : Int) = some st0 := by
        unfold sli
        rw [if_pos (by rw [hl]; omega)]
        simp
      obtain ⟨s', st', z, k1, k2⟩ := away_b2 hn hf (wo := wo) (to_ := to_) (s := ⟨a, b⟩) (st := st0) (x := x) (M := M - 1) hx (by omega)
        ⟨hI.v, fun r hr => hI.i r (by simp [hr]), hI.d, fun k hk hst hX => hI.p k hk (by
          intro c
          rcases List.mem_append.1 c with c | c
          · exact hst c
          · have := List.mem_singleton.1 c
            exact hX (by omega)) id, by omega, hI.t⟩ (hI.d x hbx) hbx
      simp only [hl, hp, decide_true, if_true, hw, hix, hsl, Option.bind_some, pred_ok hn hf h1 h2 hx]
      simp only at k1
      rw [k1]
      refine ⟨_, rfl, ⟨M - 1, by omega, k2⟩, ?_⟩
      show st'.length + cN (bH s') f.blocks.length < (st0 ++ [(x : Int)]).length + cN (bH ⟨a, b⟩) f.blocks.length
      have := k2.m
      simp
      omega
end

theorem large_ok {f : Fnc} (hn : fOk f) (fuel : Nat) : ∃ b, p_dyehouseref12_Large fuel f = some b ∧ (b = false → f.blocks.length ≤ 80) := by
  have hn1 := hn.1
  unfold p_dyehouseref12_Large
  obtain ⟨s, h1, _⟩ := toN_inv (fun _ (_ : Int) => True) (fun i s => p_dyehouseref12_Large_b1 fuel f i s) f.blocks.length (by omega) (s := IntKind.wrap .i64 ((IntKind.wrap .i64 ((f.name.size : Int) + (f.regs.length : Int))) + (f.params.length : Int))) trivial (by
    intro i s hi _
    obtain ⟨b, hb⟩ := getAt hi
    have hbb := hn.2 b (List.mem_of_getElem? hb)
    unfold p_dyehouseref12_Large_b1
    simp only [idx_nat hb, Option.bind_some]
    obtain ⟨s, h1, _⟩ := toN_inv (fun _ (_ : Int) => True) (fun i s => p_dyehouseref12_Large_b2 fuel b i s) b.code.length (by omega) (s := (IntKind.wrap .i64 ((IntKind.wrap .i64 (s + (b.label.size : Int))) + (b.ins.length : Int)))) trivial (by
      intro i s hi _
      obtain ⟨c, hc⟩ := getAt hi
      have hcc := hbb.2 c (List.mem_of_getElem? hc)
      unfold p_dyehouseref12_Large_b2
      simp only [idx_nat hc, Option.bind_some]
      obtain ⟨s, h1, _⟩ := toN_inv (fun _ (_ : Int) => True) (fun i s => p_dyehouseref12_Large_b3 fuel c i s) c.labels.length (by omega) (s := (IntKind.wrap .i64 ((IntKind.wrap .i64 ((IntKind.wrap .i64 ((IntKind.wrap .i64 (s + 1)) + (c.args.length : Int))) + (c.name.size : Int))) + (c.cases.length : Int)))) trivial (by
        intro i s hi _
        obtain ⟨l, hl⟩ := getAt hi
        unfold p_dyehouseref12_Large_b3
        simp only [idx_nat hl, Option.bind_some]
        exact ⟨_, rfl, trivial⟩)
      rw [h1]
      exact ⟨_, rfl, trivial⟩)
    rw [h1]
    exact ⟨_, rfl, trivial⟩)
  rw [h1]
  refine ⟨_, rfl, ?_⟩
  simp
  omega
def insI (x : Int) : List Int → List Int
  | [] => [x]
  | y :: l => if x ≤ y then x :: y :: l else y :: insI x l
def isort (l : List Int) : List Int := l.foldr insI []
theorem insI_perm (x : Int) (l : List Int) : List.Perm (insI x l) (x :: l) := by
  induction l with
  | nil => exact .refl _
  | cons y l ih =>
    unfold insI
    split
    · exact .refl _
    · exact (List.Perm.cons y ih).trans (.swap x y l)
theorem insI_sorted (x : Int) (l : List Int) (h : l.Pairwise (· ≤ ·)) : (insI x l).Pairwise (· ≤ ·) := by
  induction l with
  | nil => simp [insI]
  | cons y l ih =>
    obtain ⟨h1, h2⟩ := List.pairwise_cons.1 h
    unfold insI
    split
    · rename_i c
      refine List.pairwise_cons.2 ⟨?_, h⟩
      intro z hz
      rcases List.mem_cons.1 hz with rfl | hz
      · exact c
      · have := h1 z hz; omega
    · rename_i c
      refine List.pairwise_cons.2 ⟨?_, ih h2⟩
      intro z hz
      rcases List.mem_cons.1 ((insI_perm x l).mem_iff.1 hz) with rfl | hz
      · omega
      · exact h1 z hz
theorem isort_perm (l : List Int) : List.Perm (isort l) l := by
  induction l with
  | nil => exact .refl _
  | cons y l ih => exact (insI_perm y (isort l)).trans (ih.cons y)
theorem isort_sorted (l : List Int) : (isort l).Pairwise (· ≤ ·) := by
  induction l with
  | nil => simp [isort]
  | cons y l ih => exact insI_sorted y (isort l) ih
theorem sorted_same {a b : List Int} (h : a.Pairwise (· ≤ ·)) (k : b.Pairwise (· ≤ ·)) (p : List.Perm a b) : a = b :=
  List.Perm.eq_of_pairwise (fun x y _ _ h1 h2 => Int.le_antisymm h1 h2) h k p
theorem merge_sorted (l : List Int) : (l.mergeSort fun x y => decide (x ≤ y)).Pairwise (· ≤ ·) := by
  have := List.pairwise_mergeSort (le := fun x y : Int => decide (x ≤ y)) (fun a b c h k => by simp at h k ⊢; omega) (fun a b => by simp; omega) l
  exact this.imp (fun h => by simpa using h)
theorem merge_isort (l : List Int) : (l.mergeSort fun x y => decide (x ≤ y)) = isort l :=
  sorted_same (merge_sorted l) (isort_sorted l) ((List.mergeSort_perm l _).trans (isort_perm l).symm)
def sortI (fuel : Nat) (l : List Int) : Option (List Int) := if l.length ≤ 4294967296 then some (isort l) else none
theorem sort_I (fuel : Nat) (l : List Int) : p_slices_Sort_int_int fuel l = sortI fuel l := by
  unfold p_slices_Sort_int_int sortI; rw [merge_isort]
def edges_b1 (fuel : Nat) (g_1 : graph_Graph) (r1 : Int) (x_2 : Int) (out_2 : List (A2 Int)) : Option (Ex (Int × (List (A2 Int))) ((List (A2 Int)))) :=
  if decide (x_2 < r1) = true then
    (p_graph_Graph_Succ fuel g_1 x_2).bind fun r2 =>
    (sortI fuel r2).bind fun m2 =>
    bindE (loopE fuel (fun s => p_graph_Graph_Edges_b2 fuel x_2 m2 s.1 s.2) (0, out_2)) (fun (x_5, out_5) =>
    some (.n (IntKind.wrap .i64 (x_2 + 1), out_5))) some
  else
    some (.b (x_2, out_2))
theorem edges_I (fuel : Nat) (g : graph_Graph) (r x : Int) (out : List (A2 Int)) : p_graph_Graph_Edges_b1 fuel g r x out = edges_b1 fuel g r x out := by
  unfold p_graph_Graph_Edges_b1 edges_b1
  simp only [sort_I]
theorem works_ok : p_dyehouselaw19_works 4194304 = some true := by
  unfold p_dyehouselaw19_works p_graph_Graph_Edges
  simp only [edges_I]
  decide +kernel
theorem away_law {f : Fnc} (hn : fOk f) (t wo : Int) : p_dyehouselaw19_GraphAway 4194304 f t wo = some true := by
  have hn1 := hn.1
  obtain ⟨b, hb, _⟩ := large_ok hn 4194304
  obtain ⟨g, hg, hg1, hg2, hg3, hg4⟩ := new_f hn (fuel := 4194304) (by omega)
  obtain ⟨s, hs, hV, hS⟩ := away_ok (to_ := t) (wo := wo) hn (fuel := 4194304) (by omega) hg1 hg4
  unfold p_dyehouselaw19_GraphAway
  rw [hb]
  simp only [Option.bind_some, works_ok, succ_ok hn, hg, hs]
  split
  · rfl
  · refine Or.elim (toE_inv (fun _ (_ : Unit) => True) (fun _ : Bool => False) (fun i _ => p_dyehouselaw19_GraphAway_b1 4194304 t wo (f.blocks.map (tg f)) s i) f.blocks.length (by omega) (s := ()) trivial ?_) ?_ ?_
    rotate_left
    · rintro ⟨u, h1, _⟩
      rw [List.length_map, h1]
      rfl
    · rintro ⟨v, _, h⟩; exact h.elim
    · intro i u hi _
      left
      refine ⟨(), ?_, trivial⟩
      obtain ⟨r, hr, hrl, hR⟩ := reach_ok hn (fuel := 4194304) (by omega) (wo := wo) hi
      unfold p_dyehouselaw19_GraphAway_b1
      rw [hr, List.length_map]
      simp only [Option.bind_some]
      have hi' : decide (0 ≤ (i : Int) ∧ (i : Int) < (f.blocks.length : Int)) = true := by simp; omega
      rw [has_ok hV (by omega), hi']
      simp only [Option.bind_some, Bool.true_and, Int.toNat_natCast]
      by_cases c : 0 ≤ t ∧ t < (f.blocks.length : Int)
      · obtain ⟨k, rfl⟩ := Int.eq_ofNat_of_zero_le c.1
        obtain ⟨x, hx⟩ := getAt (xs := r) (i := k) (by omega)
        simp only [c.1, c.2, decide_true, Bool.and_true, if_true, idx_nat hx, Option.bind_some]
        have : bH s i = x := by
          have e1 := hS i
          have e2 := hR k
          unfold SS at e2
          rw [hx] at e2
          have e3 : DD f wo (k : Int) i ↔ Path (EE f) (okk wo) i k := by
            constructor
            · rintro ⟨t, h1, h2, h3⟩
              have : k = t := by omega
              subst this; exact h3
            · intro h; exact ⟨k, rfl, by omega, h⟩
          cases x <;> cases hb : bH s i
          · rfl
          · rw [hb] at e1
            have := e2.2 (e3.1 (e1.1 rfl))
            simp at this
          · rw [hb] at e1
            have := e1.2 (e3.2 (e2.1 rfl))
            cases this
          · rfl
        rw [this]
        simp
      · have c' : (decide (0 ≤ t) && decide (t < (f.blocks.length : Int))) = false := by simp; omega
        simp only [c', Bool.false_eq_true, if_false, Option.bind_some]
        have : bH s i = false := by
          cases hb : bH s i
          · rfl
          · obtain ⟨k, h1, h2, _⟩ := (hS i).1 hb
            exact absurd ⟨by omega, by omega⟩ c
        rw [this]
        simp
end Go.Proofs.Ytodafoajkajnkaa.PL
