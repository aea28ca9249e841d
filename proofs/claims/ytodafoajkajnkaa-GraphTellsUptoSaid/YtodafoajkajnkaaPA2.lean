/- Plain facts about the pure functions: sets of bits. -/
import Derived.Test.YtodafoajkajnkaaPA1
set_option linter.unusedVariables false
set_option linter.unusedSimpArgs false
namespace Go.Proofs.Ytodafoajkajnkaa.PL
open Go

theorem wrapu {x : Nat} (h : x < 18446744073709551616) : IntKind.u64.wrap (x : Int) = (x : Int) := by
  simp [IntKind.wrap, IntKind.bits, IntKind.signed, IntKind.min, IntKind.max]
  omega
theorem ofIntNat {a : Nat} (ha : a < 18446744073709551616) : (BitVec.ofInt 64 (a : Int)).toNat = a := by
  rw [BitVec.toNat_ofInt]; omega
theorem band_nat {a b : Nat} (ha : a < 18446744073709551616) (hb : b < 18446744073709551616) : band .u64 (a : Int) (b : Int) = ((a &&& b : Nat) : Int) := by
  show IntKind.u64.wrap (((BitVec.ofInt 64 (a : Int) &&& BitVec.ofInt 64 (b : Int)).toNat : Nat) : Int) = _
  rw [BitVec.toNat_and, ofIntNat ha, ofIntNat hb, wrapu (Nat.and_lt_two_pow (n := 64) a hb)]
theorem bor_nat {a b : Nat} (ha : a < 18446744073709551616) (hb : b < 18446744073709551616) : bor .u64 (a : Int) (b : Int) = ((a ||| b : Nat) : Int) := by
  show IntKind.u64.wrap (((BitVec.ofInt 64 (a : Int) ||| BitVec.ofInt 64 (b : Int)).toNat : Nat) : Int) = _
  rw [BitVec.toNat_or, ofIntNat ha, ofIntNat hb, wrapu (Nat.or_lt_two_pow (n := 64) ha hb)]
theorem shr_nat {a k : Nat} (hk : k < 64) : shr .u64 (a : Int) (k : Int) = some ((a / 2 ^ k : Nat) : Int) := by
  unfold shr
  rw [if_neg (by omega)]
  have : min ((k : Int).toNat) IntKind.u64.bits = k := by show min ((k : Int).toNat) 64 = k; omega
  rw [this, Int.fdiv_eq_ediv_of_nonneg _ (by exact Int.le_of_lt (Int.pow_pos (by decide)))]
  congr 1
theorem shl_one {k : Nat} (hk : k < 64) : shl .u64 1 (k : Int) = some ((2 ^ k : Nat) : Int) := by
  unfold shl
  rw [if_neg (by omega)]
  have : min ((k : Int).toNat) IntKind.u64.bits = k := by show min ((k : Int).toNat) 64 = k; omega
  have h2 : 2 ^ k < 18446744073709551616 := Nat.pow_lt_pow_right (n := 64) (by decide) hk
  rw [this]
  congr 1
  rw [← wrapu h2]
  simp
theorem tdiv_nat (i : Nat) : Int.tdiv (i : Int) 64 = ((i / 64 : Nat) : Int) := by
  rw [Int.tdiv_eq_ediv_of_nonneg (by omega)]; omega
theorem tmod_nat (i : Nat) : Int.tmod (i : Int) 64 = ((i % 64 : Nat) : Int) := by
  rw [Int.tmod_eq_emod_of_nonneg (by omega)]; omega

/-- A set of numbers below n. -/
def bV (s : bits_Set) (n : Nat) : Prop := s.n = (n : Int) ∧ s.words.length = (n + 63) / 64 ∧ ∀ w ∈ s.words, 0 ≤ w ∧ w < 18446744073709551616
def bH (s : bits_Set) (j : Nat) : Bool := match s.words[j / 64]? with | some w => w.toNat.testBit (j % 64) | none => false

theorem has_ok {s : bits_Set} {n : Nat} (hV : bV s n) (hn : n ≤ 4294967296) (fuel : Nat) (i : Int) : p_bits_Set_Has fuel s i = some (decide (0 ≤ i ∧ i < (n : Int)) && bH s i.toNat) := by
  unfold p_bits_Set_Has p_bits_Set_in
  rw [hV.1]
  by_cases h : 0 ≤ i ∧ i < (n : Int)
  · obtain ⟨k, rfl⟩ := Int.eq_ofNat_of_zero_le h.1
    have hk : k < n := by omega
    obtain ⟨w, hw⟩ := getAt (xs := s.words) (i := k / 64) (by rw [hV.2.1]; omega)
    obtain ⟨hw0, hw1⟩ := hV.2.2 w (List.mem_of_getElem? hw)
    obtain ⟨a, rfl⟩ := Int.eq_ofNat_of_zero_le hw0
    have ha : a < 18446744073709551616 := by omega
    have hd : a / 2 ^ (k % 64) < 18446744073709551616 := Nat.lt_of_le_of_lt (Nat.div_le_self _ _) ha
    have hw' : idx s.words (IntKind.wrap .i64 (Int.tdiv (k : Int) 64)) = some (a : Int) := by
      rw [tdiv_nat, wrap_in (by omega) (by omega)]; exact idx_nat hw
    have hb := band_nat hd (b := 1) (by decide)
    have hr : decide (band .u64 ((a / 2 ^ (k % 64) : Nat) : Int) 1 = 1) = a.testBit (k % 64) := by
      rw [show (1 : Int) = ((1 : Nat) : Int) from rfl, hb, Nat.and_one_is_mod, Nat.testBit_eq_decide_div_mod_eq]
      congr 1
      simp only [eq_iff_iff]
      omega
    have hs := shr_nat (a := a) (k := k % 64) (by omega)
    rw [← tmod_nat] at hs
    simp only [Option.bind_some, h.1, h.2, decide_true, Bool.and_true, if_true, Bool.true_and, and_self]
    rw [hw']
    simp only [Option.bind_some]
    rw [hs]
    simp only [Option.bind_some, hr]
    simp [bH, hw]
  · have : (true && decide (0 ≤ i) && decide (i < (n : Int))) = false := by
      simp; omega
    simp only [this, Option.bind_some, h, decide_false, Bool.false_and]
    simp
theorem add_ok {s : bits_Set} {n : Nat} (hV : bV s n) (hn : n ≤ 4294967296) (fuel : Nat) (i : Int) :
    (p_bits_Set_Add fuel s i = some (false, s) ∧ ∀ k : Nat, i = k → k < n → bH s k = true) ∨
    ∃ (k : Nat) (s' : bits_Set), i = k ∧ k < n ∧ bH s k = false ∧ p_bits_Set_Add fuel s i = some (true, s') ∧ bV s' n ∧ ∀ j, bH s' j = (bH s j || decide (j = k)) := by
  unfold p_bits_Set_Add
  rw [has_ok hV hn]
  have hin : p_bits_Set_in fuel s i = some (decide (0 ≤ i ∧ i < (n : Int))) := by unfold p_bits_Set_in; rw [hV.1]; simp
  rw [hin]
  by_cases h : 0 ≤ i ∧ i < (n : Int)
  · obtain ⟨k, rfl⟩ := Int.eq_ofNat_of_zero_le h.1
    have hk : k < n := by omega
    obtain ⟨w, hw⟩ := getAt (xs := s.words) (i := k / 64) (by rw [hV.2.1]; omega)
    obtain ⟨hw0, hw1⟩ := hV.2.2 w (List.mem_of_getElem? hw)
    obtain ⟨a, rfl⟩ := Int.eq_ofNat_of_zero_le hw0
    have ha : a < 18446744073709551616 := by omega
    have hw' : idx s.words (IntKind.wrap .i64 (Int.tdiv (k : Int) 64)) = some (a : Int) := by
      rw [tdiv_nat, wrap_in (by omega) (by omega)]; exact idx_nat hw
    by_cases hb : bH s k = true
    · left
      refine ⟨by simp [h, hb], ?_⟩
      intro k' e _; have : k = k' := by omega
      subst this; exact hb
    · right
      have hb' : bH s k = false := by simpa using hb
      have h2 : 2 ^ (k % 64) < 18446744073709551616 := Nat.pow_lt_pow_right (n := 64) (by decide) (by omega)
      have hs := shl_one (k := k % 64) (by omega)
      rw [← tmod_nat] at hs
      have hset : setI s.words (IntKind.wrap .i64 (Int.tdiv (k : Int) 64)) (bor .u64 (a : Int) ((2 ^ (k % 64) : Nat) : Int)) = some (s.words.set (k / 64) ((a ||| 2 ^ (k % 64) : Nat) : Int)) := by
        rw [tdiv_nat, wrap_in (by omega) (by omega), bor_nat ha h2]; exact setI_nat (by rw [hV.2.1]; omega)
      refine ⟨k, ⟨s.n, s.words.set (k / 64) ((a ||| 2 ^ (k % 64) : Nat) : Int)⟩, rfl, hk, hb', ?_, ⟨hV.1, by simp [hV.2.1], ?_⟩, ?_⟩
      · have hkn : ((k : Int) < (n : Int)) := h.2
        have c0 : (decide (0 ≤ (k : Int) ∧ (k : Int) < (n : Int))) = true := by simpa using h
        have c1 : (true && bH s ((k : Int)).toNat) = false := by simpa using hb'
        simp only [Option.bind_some, c0, c1, Bool.not_true, Bool.false_eq_true, if_false]
        rw [hw']
        simp only [Option.bind_some]
        rw [hs]
        simp only [Option.bind_some]
        rw [hset]
        rfl
      · intro w hwm
        rcases List.mem_or_eq_of_mem_set hwm with hwm | rfl
        · exact hV.2.2 w hwm
        · have := Nat.or_lt_two_pow (n := 64) ha h2
          omega
      · intro j
        unfold bH
        by_cases e : j / 64 = k / 64
        · have hl : k / 64 < s.words.length := by rw [hV.2.1]; omega
          simp only [e, List.getElem?_set_self hl, hw, Int.toNat_natCast, Nat.testBit_or, Nat.testBit_two_pow]
          congr 1
          simp only [decide_eq_decide]
          omega
        · have : j ≠ k := by intro c; subst c; exact e rfl
          rw [List.getElem?_set_ne (by omega)]
          simp [this]
  · left
    refine ⟨by simp [h], ?_⟩
    intro k e hk; omega
theorem new_ok {n : Nat} (hn : n ≤ 4294967296) (fuel : Nat) : ∃ s, p_bits_New fuel (n : Int) = some s ∧ bV s n ∧ ∀ j, bH s j = false := by
  have h0 : (if 0 > (n : Int) then 0 else (n : Int)) = n := by rw [if_neg (by omega)]
  refine ⟨⟨n, List.replicate ((n + 63) / 64) 0⟩, ?_, ⟨rfl, by simp, ?_⟩, ?_⟩
  · unfold p_bits_New
    rw [h0, wrap_in (x := (n : Int) + 64) (by omega) (by omega), wrap_in (x := (n : Int) + 64 - 1) (by omega) (by omega), show (n : Int) + 64 - 1 = ((n + 63 : Nat) : Int) by omega, tdiv_nat, wrap_in (by omega) (by omega), mk_nat (by omega)]
    rfl
  · intro w hw
    have := (List.mem_replicate.1 hw).2
    subst this; omega
  · intro j
    unfold bH
    simp only [List.getElem?_replicate]
    split
    · rename_i h
      split at h
      · cases h; simp
      · cases h
    · rfl
end Go.Proofs.Ytodafoajkajnkaa.PL
