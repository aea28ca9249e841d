/- Plain facts about the pure functions: what is reached from a block without going through another one, forward and backward. -/
import Derived.Test.YtodafoajkajnkaaPA3
set_option linter.unusedVariables false
set_option linter.unusedSimpArgs false
namespace Go.Proofs.Ytodafoajkajnkaa.PL
open Go

inductive Path (E : Nat → Nat → Prop) (ok : Nat → Prop) : Nat → Nat → Prop
  | one {a : Nat} : ok a → Path E ok a a
  | step {a b c : Nat} : ok a → E a b → Path E ok b c → Path E ok a c
theorem Path.fst {E : Nat → Nat → Prop} {ok : Nat → Prop} {a b : Nat} (h : Path E ok a b) : ok a := by cases h <;> assumption
theorem Path.lst {E : Nat → Nat → Prop} {ok : Nat → Prop} {a b : Nat} (h : Path E ok a b) : ok b := by
  induction h with
  | one h => exact h
  | step _ _ _ ih => exact ih
theorem Path.snoc {E : Nat → Nat → Prop} {ok : Nat → Prop} {a b c : Nat} (h : Path E ok a b) (e : E b c) (k : ok c) : Path E ok a c := by
  induction h with
  | one h => exact .step h e (.one k)
  | step h1 h2 _ ih => exact .step h1 h2 (ih e)
theorem Path.closed {E : Nat → Nat → Prop} {ok : Nat → Prop} {C : Nat → Prop} (hC : ∀ a b, C a → E a b → ok b → C b) {a b : Nat} (h : Path E ok a b) : C a → C b := by
  induction h with
  | one h => exact id
  | step h1 h2 h3 ih => exact fun c => ih (hC _ _ c h2 h3.fst)
theorem Path.back {E : Nat → Nat → Prop} {ok : Nat → Prop} {C : Nat → Prop} (hC : ∀ a b, C b → E a b → ok a → C a) {a b : Nat} (h : Path E ok a b) : C b → C a := by
  induction h with
  | one h => exact id
  | step h1 h2 h3 ih => exact fun c => hC _ _ (ih c) h2 h1

theorem count_le : ∀ (l k : List Bool), l.length = k.length → (∀ j : Nat, l[j]? = some true → k[j]? = some true) → l.count true ≤ k.count true ∧ (l.count true = k.count true → l = k) := by
  intro l
  induction l with
  | nil => intro k h _; cases k with
    | nil => simp
    | cons b k => simp at h
  | cons a l ih =>
    intro k h hs
    cases k with
    | nil => simp at h
    | cons b k =>
      obtain ⟨h1, h2⟩ := ih k (by simpa using h) (fun j hj => by simpa using hs (j + 1) (by simpa using hj))
      have h0 := hs 0
      cases a <;> cases b
      · simp only [List.count_cons]; simp; exact ⟨h1, h2⟩
      · simp only [List.count_cons]; simp; constructor
        · omega
        · intro e; omega
      · simp at h0
      · simp only [List.count_cons]; simp; exact ⟨h1, h2⟩

section
variable {f : Fnc} (hn : fOk f) {fuel : Nat} (hf : 1048577 < fuel) {wo : Int}
def EE (f : Fnc) (a b : Nat) : Prop := (b : Int) ∈ TT f a
def okk (wo : Int) (a : Nat) : Prop := (a : Int) ≠ wo
def SS (s : List Bool) (j : Nat) : Prop := s[j]? = some true
theorem TT_lt (hn : fOk f) {a b : Nat} (h : EE f a b) : b < f.blocks.length := by
  unfold EE TT at h
  split at h
  · have := (tg_in hn _ _ h).2; omega
  · simp at h
theorem TT_fst {a b : Nat} (h : EE f a b) : a < f.blocks.length := by
  unfold EE TT at h
  split at h
  · rename_i c; exact (List.getElem?_eq_some_iff.1 c).1
  · simp at h
theorem TT_in (hn : fOk f) {a : Nat} {r : Int} (h : r ∈ TT f a) : 0 ≤ r ∧ r < (f.blocks.length : Int) := by
  unfold TT at h
  split at h
  · exact tg_in hn _ _ h
  · simp at h
theorem TT_at {a : Nat} (h : a < f.blocks.length) : (f.blocks.map (tg f))[a]? = some (TT f a) := by
  obtain ⟨b, hb⟩ := getAt h
  unfold TT
  simp [hb]
theorem TT_len (hn : fOk f) (a : Nat) : (TT f a).length ≤ 1048576 := by
  unfold TT
  split
  · rename_i c; exact tg_len hn (List.mem_of_getElem? c)
  · simp
include hn hf in
theorem reach_b2 {seen : List Bool} (hs : seen.length = f.blocks.length) {i : Nat} (hi : i < f.blocks.length) :
    ∃ s', p_dyehouseref19_Reach_b2 fuel (f.blocks.map (tg f)) wo i seen = some s' ∧ s'.length = f.blocks.length ∧ (∀ j, SS seen j → SS s' j) ∧
      (SS seen i → ∀ j, EE f i j → okk wo j → SS s' j) ∧ ∀ j, SS s' j → SS seen j ∨ (SS seen i ∧ EE f i j ∧ okk wo j) := by
  have hn1 := hn.1
  have hlen := TT_len hn i
  have hT := idx_nat (TT_at hi)
  unfold p_dyehouseref19_Reach_b2
  refine Or.elim (loopE_inv (fun s : Int × List Bool => ∃ y : Nat, s.1 = y ∧ y ≤ (TT f i).length ∧ s.2.length = f.blocks.length ∧ (∀ j, SS seen j → SS s.2 j) ∧ (SS s.2 i → SS seen i) ∧
      (∀ z < y, ∀ j : Nat, (TT f i)[z]? = some (j : Int) → okk wo j → SS s.2 j) ∧ ∀ j, SS s.2 j → SS seen j ∨ (SS seen i ∧ EE f i j ∧ okk wo j))
    (fun s : Int × List Bool => s.2.length = f.blocks.length ∧ (∀ j, SS seen j → SS s.2 j) ∧ (SS seen i → ∀ j, EE f i j → okk wo j → SS s.2 j) ∧ ∀ j, SS s.2 j → SS seen j ∨ (SS seen i ∧ EE f i j ∧ okk wo j))
    (fun _ : List Bool => False) (fun s => (TT f i).length - s.1.toNat) (fun s => p_dyehouseref19_Reach_b3 fuel (f.blocks.map (tg f)) wo i s.1 s.2) ?_ fuel (0, seen)
    ⟨0, rfl, by omega, hs, fun _ h => h, fun h => h, by intro z h; omega, fun _ h => .inl h⟩ (by simp; omega)) ?_ ?_
  rotate_left
  · rintro ⟨⟨z, s'⟩, h1, h2, h3, h4, h5⟩
    rw [h1]
    exact ⟨s', rfl, h2, h3, h4, h5⟩
  · rintro ⟨v, _, h⟩; exact h.elim
  · rintro ⟨q, s⟩ ⟨y, hq, hy, hl, h3, h4, h5, h6⟩
    simp only at hq hl h3 h4 h5 h6
    subst hq
    show (∃ s', p_dyehouseref19_Reach_b3 fuel (f.blocks.map (tg f)) wo i (y : Int) s = some (.n s') ∧ _) ∨ (∃ s', p_dyehouseref19_Reach_b3 fuel (f.blocks.map (tg f)) wo i (y : Int) s = some (.b s') ∧ _) ∨ _
    unfold p_dyehouseref19_Reach_b3
    obtain ⟨x, hx⟩ := getAt (xs := s) (i := i) (by omega)
    cases x with
    | false =>
      right; left
      simp only [idx_nat hx, Option.bind_some, Bool.false_eq_true, if_false]
      refine ⟨_, rfl, hl, h3, ?_, h6⟩
      intro h
      have := h3 i h
      unfold SS at this
      rw [hx] at this
      cases this
    | true =>
      by_cases c : y < (TT f i).length
      · left
        obtain ⟨r, hr⟩ := getAt c
        obtain ⟨hr0, hr1⟩ := TT_in hn (List.mem_of_getElem? hr)
        obtain ⟨k, rfl⟩ := Int.eq_ofNat_of_zero_le hr0
        have hc : (y : Int) < ((TT f i).length : Int) := by omega
        have hSi : SS seen i := h4 hx
        have hE : EE f i k := List.mem_of_getElem? hr
        have hm : (TT f i).length - (IntKind.i64.wrap ((y : Int) + 1)).toNat < (TT f i).length - ((y : Int)).toNat := by rw [wrap1 (by omega)]; omega
        simp only [idx_nat hx, Option.bind_some, if_true, hT, hc, decide_true, idx_nat hr]
        by_cases d : (k : Int) = wo
        · simp only [d, ne_eq, not_true_eq_false, decide_false, Bool.false_eq_true, if_false, Option.bind_some]
          refine ⟨_, rfl, ⟨y + 1, wrap1 (by omega), by omega, hl, h3, h4, ?_, h6⟩, hm⟩
          intro z hz j hj hok
          by_cases e : z = y
          · subst e; rw [hr] at hj; have := Option.some.inj hj
            exact absurd (this.symm.trans d) hok
          · exact h5 z (by omega) j hj hok
        · obtain ⟨v, hv⟩ := getAt (xs := s) (i := k) (by omega)
          have hset : setI s (k : Int) true = some (s.set k true) := setI_nat (by omega)
          have hself : (s.set k true)[k]? = some true := List.getElem?_set_self (by omega)
          have hsup : ∀ j, SS s j → SS (s.set k true) j := by
            intro j hj
            by_cases e : j = k
            · subst e; exact hself
            · show (s.set k true)[j]? = some true
              rw [List.getElem?_set_ne (by omega)]; exact hj
          simp only [ne_eq, d, not_false_eq_true, decide_true, if_true, idx_nat hv, Option.bind_some, hset]
          refine ⟨_, rfl, ⟨y + 1, wrap1 (by omega), by omega, by simpa using hl, fun j hj => hsup j (h3 j hj), fun _ => hSi, ?_, ?_⟩, hm⟩
          · intro z hz j hj hok
            by_cases e : z = y
            · subst e; rw [hr] at hj; have := Option.some.inj hj
              have : j = k := by omega
              subst this; exact hself
            · exact hsup j (h5 z (by omega) j hj hok)
          · intro j hj
            by_cases e : j = k
            · subst e; exact .inr ⟨hSi, hE, d⟩
            · refine h6 j ?_
              have hj' : (s.set k true)[j]? = some true := hj
              rw [List.getElem?_set_ne (by omega)] at hj'; exact hj'
      · right; left
        have hc : ¬ ((y : Int) < ((TT f i).length : Int)) := by omega
        simp only [idx_nat hx, Option.bind_some, if_true, hT, hc, decide_false, Bool.false_eq_true, if_false]
        refine ⟨_, rfl, hl, h3, ?_, h6⟩
        intro _ j hj hok
        obtain ⟨z, hz⟩ := List.getElem?_of_mem hj
        have := (List.getElem?_eq_some_iff.1 hz).1
        exact h5 z (by omega) j hz hok

def Cl (f : Fnc) (wo : Int) (C : Nat → Prop) : Prop := ∀ a b, C a → EE f a b → okk wo b → C b
include hn hf in
theorem reach_b1 {seen : List Bool} (hs : seen.length = f.blocks.length) (x : Int) :
    ∃ s', p_dyehouseref19_Reach_b1 fuel (f.blocks.map (tg f)) wo x seen = some s' ∧ s'.length = f.blocks.length ∧ (∀ j, SS seen j → SS s' j) ∧
      (∀ i j, SS seen i → EE f i j → okk wo j → SS s' j) ∧ ∀ C, Cl f wo C → (∀ j, SS seen j → C j) → ∀ j, SS s' j → C j := by
  have hn1 := hn.1
  unfold p_dyehouseref19_Reach_b1
  obtain ⟨s', h1, h2, h3, h4, h5⟩ := toN_inv (fun i (s : List Bool) => s.length = f.blocks.length ∧ (∀ j, SS seen j → SS s j) ∧ (∀ i' < i, ∀ j, SS seen i' → EE f i' j → okk wo j → SS s j) ∧ ∀ C, Cl f wo C → (∀ j, SS seen j → C j) → ∀ j, SS s j → C j)
    (fun i s => p_dyehouseref19_Reach_b2 fuel (f.blocks.map (tg f)) wo i s) f.blocks.length (by omega) (s := seen) ⟨hs, fun _ h => h, by intro i h; omega, fun _ _ h => h⟩ (by
      rintro i s hi ⟨h2, h3, h4, h5⟩
      obtain ⟨t, k1, k2, k3, k4, k5⟩ := reach_b2 hn hf (wo := wo) h2 hi
      refine ⟨t, k1, k2, fun j h => k3 j (h3 j h), ?_, ?_⟩
      · intro i' hi' j hS hE hok
        by_cases e : i' = i
        · subst e; exact k4 (h3 _ hS) j hE hok
        · exact k3 j (h4 i' (by omega) j hS hE hok)
      · intro C hC hsub j hj
        rcases k5 j hj with h | ⟨h, hE, hok⟩
        · exact h5 C hC hsub j h
        · exact hC i j (h5 C hC hsub i h) hE hok)
  rw [List.length_map, h1]
  exact ⟨s', rfl, h2, h3, fun i j hS hE hok => h4 i (TT_fst hE) j hS hE hok, h5⟩
include hn hf in
theorem reach_ok {k : Nat} (hk : k < f.blocks.length) : ∃ s, p_dyehouseref19_Reach fuel (f.blocks.map (tg f)) k wo = some s ∧ s.length = f.blocks.length ∧ ∀ j, SS s j ↔ Path (EE f) (okk wo) k j := by
  have hn1 := hn.1
  unfold p_dyehouseref19_Reach
  rw [List.length_map, mk_nat (by omega)]
  have h0 : ∀ j, ¬ SS (List.replicate f.blocks.length false) j := by
    intro j h
    unfold SS at h
    rw [List.getElem?_replicate] at h
    split at h <;> simp at h
  have c1 : decide ((k : Int) < 0) = false := by simp
  have c2 : decide ((f.blocks.length : Int) ≤ (k : Int)) = false := by simp; omega
  simp only [Option.bind_some, c1, c2, Bool.false_or]
  by_cases c : (k : Int) = wo
  · simp only [c, decide_true, if_true]
    refine ⟨_, rfl, by simp, ?_⟩
    intro j
    constructor
    · intro h; exact absurd h (h0 j)
    · intro h; exact absurd c h.fst
  · have hset : setI (List.replicate f.blocks.length false) (k : Int) true = some ((List.replicate f.blocks.length false).set k true) := setI_nat (by simpa using hk)
    have hidx : idx (List.replicate f.blocks.length false) (k : Int) = some false := idx_nat (by simp [List.getElem?_replicate, hk])
    simp only [c, decide_false, Bool.false_eq_true, if_false, hidx, Option.bind_some, hset]
    obtain ⟨s', h1, h2, h3, h4, h5⟩ := toN_inv (fun i (s : List Bool) => s.length = f.blocks.length ∧ SS s k ∧ (Cl f wo (SS s) ∨ i + 1 ≤ s.count true) ∧ ∀ C, Cl f wo C → C k → ∀ j, SS s j → C j)
      (fun i s => p_dyehouseref19_Reach_b1 fuel (f.blocks.map (tg f)) wo i s) f.blocks.length (by omega) (s := (List.replicate f.blocks.length false).set k true)
      ⟨by simp, List.getElem?_set_self (by simpa using hk), .inr (by
        have : true ∈ (List.replicate f.blocks.length false).set k true := List.mem_of_getElem? (List.getElem?_set_self (by simpa using hk))
        have := List.count_pos_iff.2 this
        omega), by
        intro C hC hCk j hj
        by_cases e : j = k
        · subst e; exact hCk
        · unfold SS at hj
          rw [List.getElem?_set_ne (by omega)] at hj
          exact absurd hj (h0 j)⟩ (by
      rintro i s hi ⟨h2, h3, h4, h5⟩
      obtain ⟨t, k1, k2, k3, k4, k5⟩ := reach_b1 hn hf (wo := wo) h2 i
      refine ⟨t, k1, k2, k3 k h3, ?_, fun C hC hCk j hj => k5 C hC (h5 C hC hCk) j hj⟩
      obtain ⟨m1, m2⟩ := count_le s t (by omega) k3
      rcases h4 with h4 | h4
      · left
        have hst : ∀ j, SS t j → SS s j := k5 (SS s) h4 (fun _ h => h)
        intro a b ha hE hok
        exact k3 b (h4 a b (hst a ha) hE hok)
      · by_cases e : s.count true = t.count true
        · left
          have := m2 e
          subst this
          exact fun a b ha hE hok => k4 a b ha hE hok
        · right; omega)
    rw [h1]
    refine ⟨s', rfl, h2, ?_⟩
    have hcl : Cl f wo (SS s') := by
      rcases h4 with h4 | h4
      · exact h4
      · have := List.count_le_length (a := true) (l := s')
        omega
    intro j
    constructor
    · exact fun h => h5 (fun j => Path (EE f) (okk wo) k j) (fun a b ha hE hok => ha.snoc hE hok) (.one c) j h
    · exact fun h => h.closed (C := SS s') hcl h3
end
end Go.Proofs.Ytodafoajkajnkaa.PL
