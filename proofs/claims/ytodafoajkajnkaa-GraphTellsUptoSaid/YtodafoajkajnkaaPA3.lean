/- Plain facts about the pure functions: where blocks go on, by the reference and by the graph. -/
import Derived.Test.YtodafoajkajnkaaPA2
set_option linter.unusedVariables false
set_option linter.unusedSimpArgs false
namespace Go.Proofs.Ytodafoajkajnkaa.PL
open Go

def fOk (f : Fnc) : Prop := f.blocks.length ≤ 1048576 ∧ ∀ b ∈ f.blocks, b.code.length ≤ 1048576 ∧ ∀ i ∈ b.code, i.labels.length ≤ 1048576
def fnd (f : Fnc) (l : ByteArray) : Int := (p_dyehouseref12_Find 0 f l).getD (-1)
theorem fnd_is {f : Fnc} (hn : fOk f) (l : ByteArray) : isFnd f.blocks l (fnd f l) := by
  obtain ⟨r, h1, h2⟩ := find_ref (f := f) (by have := hn.1; omega) 0 l
  unfold fnd; rw [h1]; exact h2
theorem fnd_ref {f : Fnc} (hn : fOk f) (fuel : Nat) (l : ByteArray) : p_dyehouseref12_Find fuel f l = some (fnd f l) := by
  obtain ⟨r, h1, h2⟩ := find_ref (f := f) (by have := hn.1; omega) fuel l
  rw [h1, isFnd_same h2 (fnd_is hn l)]
theorem fnd_ir {f : Fnc} (hn : fOk f) {fuel : Nat} (hf : 1048576 < fuel) (l : ByteArray) : p_ir_Find fuel f l = some (fnd f l) := by
  obtain ⟨r, h1, h2⟩ := find_ir (f := f) (by have := hn.1; omega) (fuel := fuel) (by have := hn.1; omega) l
  rw [h1, isFnd_same h2 (fnd_is hn l)]
theorem fnd_lt {f : Fnc} (hn : fOk f) (l : ByteArray) : -1 ≤ fnd f l ∧ fnd f l < (f.blocks.length : Int) := isFnd_lt (fnd_is hn l)
def addT (acc : List Int) (r : Int) : List Int := if 0 ≤ r ∧ r ∉ acc then acc ++ [r] else acc
theorem addT_len (acc : List Int) (r : Int) : (addT acc r).length ≤ acc.length + 1 := by
  unfold addT; split <;> simp
def tgl (f : Fnc) (ls : List ByteArray) : List Int := ls.foldl (fun a l => addT a (fnd f l)) []
theorem tgl_next (f : Fnc) {ls : List ByteArray} {i : Nat} {l : ByteArray} (h : ls[i]? = some l) : tgl f (ls.take (i + 1)) = addT (tgl f (ls.take i)) (fnd f l) := by
  unfold tgl
  rw [List.take_add_one, h]
  simp
theorem foldT_len (f : Fnc) (ls : List ByteArray) : ∀ acc : List Int, (ls.foldl (fun a l => addT a (fnd f l)) acc).length ≤ acc.length + ls.length := by
  induction ls with
  | nil => intro acc; simp
  | cons l ls ih =>
    intro acc
    have h1 := ih (addT acc (fnd f l))
    have h2 := addT_len acc (fnd f l)
    simp only [List.foldl_cons, List.length_cons]
    omega
theorem tgl_len (f : Fnc) (ls : List ByteArray) : (tgl f ls).length ≤ ls.length := by simpa [tgl] using foldT_len f ls []
theorem foldT_in {f : Fnc} (hn : fOk f) (ls : List ByteArray) : ∀ acc : List Int, (∀ r ∈ acc, 0 ≤ r ∧ r < (f.blocks.length : Int)) → ∀ r ∈ ls.foldl (fun a l => addT a (fnd f l)) acc, 0 ≤ r ∧ r < (f.blocks.length : Int) := by
  induction ls with
  | nil => intro acc h; exact h
  | cons l ls ih =>
    intro acc h
    refine ih _ ?_
    intro r hr
    change r ∈ addT acc (fnd f l) at hr
    unfold addT at hr
    split at hr
    · rename_i c
      rcases List.mem_append.1 hr with hr | hr
      · exact h r hr
      · have := List.mem_singleton.1 hr
        subst this
        exact ⟨c.1, (fnd_lt hn l).2⟩
    · exact h r hr
theorem tgl_in {f : Fnc} (hn : fOk f) (ls : List ByteArray) : ∀ r ∈ tgl f ls, 0 ≤ r ∧ r < (f.blocks.length : Int) := foldT_in hn ls [] (by simp)
def lastB (b : Bl) : Option Ins := match b.code[b.code.length - 1]? with | some i => if 20 ≤ i.op ∧ i.op ≤ 23 then some i else none | none => none
def tg (f : Fnc) (b : Bl) : List Int := match lastB b with | some i => tgl f i.labels | none => []
theorem lastB_len {f : Fnc} (hn : fOk f) {b : Bl} (hb : b ∈ f.blocks) {i : Ins} (h : lastB b = some i) : i.labels.length ≤ 1048576 := by
  unfold lastB at h
  split at h
  · rename_i j hj
    split at h
    · cases h; exact (hn.2 b hb).2 _ (List.mem_of_getElem? hj)
    · cases h
  · cases h
theorem tg_in {f : Fnc} (hn : fOk f) (b : Bl) : ∀ r ∈ tg f b, 0 ≤ r ∧ r < (f.blocks.length : Int) := by
  unfold tg
  split
  · exact tgl_in hn _
  · simp
theorem tg_len {f : Fnc} (hn : fOk f) {b : Bl} (hb : b ∈ f.blocks) : (tg f b).length ≤ 1048576 := by
  unfold tg
  split
  · rename_i i h
    exact Nat.le_trans (tgl_len _ _) (lastB_len hn hb h)
  · simp
theorem last_idx {b : Bl} (h : b.code.length ≤ 1048576) (h0 : b.code.length ≠ 0) : ∃ i, b.code[b.code.length - 1]? = some i ∧ idx b.code (IntKind.wrap .i64 ((b.code.length : Int) - 1)) = some i := by
  obtain ⟨i, hi⟩ := getAt (xs := b.code) (i := b.code.length - 1) (by omega)
  refine ⟨i, hi, ?_⟩
  rw [wrap_in (by omega) (by omega), show (b.code.length : Int) - 1 = ((b.code.length - 1 : Nat) : Int) by omega]
  exact idx_nat hi

theorem succ_b2 {f : Fnc} (hn : fOk f) (fuel : Nat) {x : Ins} {y : Nat} {l : ByteArray} (hl : x.labels[y]? = some l) {acc : List Int} (ha : acc.length ≤ 1048576) :
    p_dyehouseref19_Succ_b2 fuel f x y acc = some (addT acc (fnd f l)) := by
  unfold p_dyehouseref19_Succ_b2
  simp only [idx_nat hl, Option.bind_some, fnd_ref hn, in_ref (l := acc) (by omega), addT]
  by_cases c : 0 ≤ fnd f l
  · by_cases d : fnd f l ∈ acc
    · simp [c, d]
    · simp only [c, d, decide_true, if_true, decide_false, Bool.not_false, Option.bind_some, true_and, not_false_iff]
      rw [app_ok (by simp; omega)]
      rfl
  · simp [c]
theorem succ_b1 {f : Fnc} (hn : fOk f) (fuel : Nat) {i : Nat} {b : Bl} (hb : f.blocks[i]? = some b) {out : List (List Int)} (ho : out.length ≤ 1048576) :
    p_dyehouseref19_Succ_b1 fuel f i out = some (out ++ [tg f b]) := by
  have hm : b ∈ f.blocks := List.mem_of_getElem? hb
  have hc := (hn.2 b hm).1
  unfold p_dyehouseref19_Succ_b1
  simp only [idx_nat hb, Option.bind_some]
  by_cases h0 : b.code.length = 0
  · have : lastB b = none := by
      unfold lastB
      have : b.code = [] := List.eq_nil_of_length_eq_zero h0
      simp [this]
    have hp : ¬ (0 < (b.code.length : Int)) := by omega
    simp only [hp, decide_false, Bool.false_eq_true, if_false, Option.bind_some, tg, this]
    rw [app_ok (by simp; omega)]
    rfl
  · obtain ⟨x, hx, hx'⟩ := last_idx hc h0
    have hp : (0 < (b.code.length : Int)) := by omega
    simp only [hp, decide_true, if_true, hx', Option.bind_some]
    by_cases c : 20 ≤ x.op ∧ x.op ≤ 23
    · have hl : lastB b = some x := by unfold lastB; rw [hx]; simp [c]
      have hll := lastB_len hn hm hl
      obtain ⟨s, h1, h2⟩ := toN_inv (fun y (acc : List Int) => acc = tgl f (x.labels.take y)) (fun i s => p_dyehouseref19_Succ_b2 fuel f x i s) x.labels.length (by omega) (s := []) rfl (by
        rintro y acc hy rfl
        obtain ⟨l, hl⟩ := getAt hy
        have := tgl_len f (x.labels.take y)
        simp at this
        exact ⟨_, succ_b2 hn fuel hl (by omega), (tgl_next f hl).symm⟩)
      rw [List.take_length] at h2
      simp only [c.1, c.2, decide_true, if_true, Option.bind_some, h1, tg, hl, h2]
      rw [app_ok (by simp; omega)]
      rfl
    · have hl : lastB b = none := by unfold lastB; rw [hx]; simp [c]
      simp only [tg, hl]
      by_cases c1 : 20 ≤ x.op
      · have c2 : ¬ x.op ≤ 23 := fun d => c ⟨c1, d⟩
        simp only [c1, c2, decide_true, decide_false, if_true, Option.bind_some, Bool.false_eq_true, if_false]
        rw [app_ok (by simp; omega)]
        rfl
      · simp only [c1, decide_false, if_true, Option.bind_some, Bool.false_eq_true, if_false]
        rw [app_ok (by simp; omega)]
        rfl
theorem succ_ok {f : Fnc} (hn : fOk f) (fuel : Nat) : p_dyehouseref19_Succ fuel f = some (f.blocks.map (tg f)) := by
  unfold p_dyehouseref19_Succ
  have hn1 := hn.1
  obtain ⟨s, h1, h2⟩ := toN_inv (fun y (out : List (List Int)) => out = (f.blocks.take y).map (tg f)) (fun i s => p_dyehouseref19_Succ_b1 fuel f i s) f.blocks.length (by omega) (s := []) rfl (by
    rintro y out hy rfl
    obtain ⟨b, hb⟩ := getAt hy
    refine ⟨_, succ_b1 hn fuel hb (by simp; omega), ?_⟩
    rw [List.take_add_one, hb]
    simp)
  rw [h1, h2, List.take_length]
  rfl

/-- The targets of a block by its number; the blocks below x that go on with j. -/
def TT (f : Fnc) (j : Nat) : List Int := match f.blocks[j]? with | some b => tg f b | none => []
def PP (f : Fnc) (x j : Nat) : List Int := ((List.range x).filter (fun k => decide ((j : Int) ∈ TT f k))).map (fun (k : Nat) => (k : Int))
theorem PP_len (f : Fnc) (x j : Nat) : (PP f x j).length ≤ x := by
  unfold PP
  rw [List.length_map]
  exact Nat.le_trans (List.length_filter_le _ _) (by simp)
theorem PP_next (f : Fnc) (x j : Nat) : PP f (x + 1) j = PP f x j ++ if (j : Int) ∈ TT f x then [(x : Int)] else [] := by
  unfold PP
  rw [List.range_succ, List.filter_append, List.map_append]
  congr 1
  by_cases c : (j : Int) ∈ TT f x <;> simp [c]
theorem PP_mem {f : Fnc} {x j : Nat} {k : Int} : k ∈ PP f x j ↔ ∃ i : Nat, k = i ∧ i < x ∧ (j : Int) ∈ TT f i := by
  unfold PP
  constructor
  · intro h
    obtain ⟨i, hi, rfl⟩ := List.mem_map.1 h
    obtain ⟨h1, h2⟩ := List.mem_filter.1 hi
    exact ⟨i, rfl, List.mem_range.1 h1, of_decide_eq_true h2⟩
  · rintro ⟨i, rfl, h1, h2⟩
    exact List.mem_map.2 ⟨i, List.mem_filter.2 ⟨List.mem_range.2 h1, decide_eq_true h2⟩, rfl⟩

structure NI (f : Fnc) (x : Nat) (acc : List Int) (c9 c10 : List (List Int)) : Prop where
  l9 : c9.length = f.blocks.length
  l10 : c10.length = f.blocks.length
  g9 : ∀ j, j < f.blocks.length → c9[j]? = some (if j = x then acc else if j < x then TT f j else [])
  g10 : ∀ j : Nat, j < f.blocks.length → c10[j]? = some (PP f x j ++ if (j : Int) ∈ acc then [(x : Int)] else [])

theorem new_b2 {f : Fnc} (hn : fOk f) {fuel : Nat} (hf : 1048577 < fuel) {x : Nat} (hx : x < f.blocks.length) {i : Ins} (hi : i.labels.length ≤ 1048576) {c9 c10 : List (List Int)} (h0 : NI f x [] c9 c10) :
    ∃ d9 d10, NI f x (tgl f i.labels) d9 d10 ∧ ∃ z, loopE fuel (fun s => p_graph_New_b2 fuel f (x : Int) i s.1 s.2.1 s.2.2) (c9, c10, 0) = some (.n (d9, d10, z)) := by
  have hn1 := hn.1
  refine Or.elim (loopE_inv (fun s : List (List Int) × List (List Int) × Int => ∃ y : Nat, s.2.2 = y ∧ y ≤ i.labels.length ∧ NI f x (tgl f (i.labels.take y)) s.1 s.2.1) (fun s => NI f x (tgl f i.labels) s.1 s.2.1) (fun _ : List (List Int) × List (List Int) => False) (fun s => i.labels.length - s.2.2.toNat)
    (fun s => p_graph_New_b2 fuel f (x : Int) i s.1 s.2.1 s.2.2) ?_ fuel (c9, c10, 0) ⟨0, rfl, by omega, h0⟩ (by simp; omega)) ?_ ?_
  rotate_left
  · rintro ⟨⟨d9, d10, z⟩, h1, h2⟩
    exact ⟨d9, d10, h2, z, h1⟩
  · rintro ⟨v, _, h⟩; exact h.elim
  · rintro ⟨a9, a10, q⟩ ⟨y, hq, hy, hI⟩
    simp only at hq hI
    subst hq
    show (∃ s', p_graph_New_b2 fuel f (x : Int) i a9 a10 (y : Int) = some (.n s') ∧ _) ∨ (∃ s', p_graph_New_b2 fuel f (x : Int) i a9 a10 (y : Int) = some (.b s') ∧ _) ∨ _
    unfold p_graph_New_b2
    by_cases hlt : y < i.labels.length
    · left
      obtain ⟨l, hl⟩ := getAt hlt
      have hlen := tgl_len f (i.labels.take y)
      simp at hlen
      have h9 := hI.g9 x hx
      simp only [if_true] at h9
      have hlt' : (y : Int) < (i.labels.length : Int) := by omega
      have hc := in_sl (l := tgl f (i.labels.take y)) (by omega) (fuel := fuel) (by omega) (fnd f l)
      simp only [hlt', decide_true, if_true, idx_nat hl, Option.bind_some, fnd_ir hn (by omega : 1048576 < fuel), idx_nat h9, hc]
      by_cases c : 0 ≤ fnd f l
      · by_cases d : fnd f l ∈ tgl f (i.labels.take y)
        · simp only [c, d, decide_true, if_true, Bool.not_true, Bool.false_eq_true, if_false, Option.bind_some]
          refine ⟨_, rfl, ⟨y + 1, wrap1 (by omega), by omega, ?_⟩, ?_⟩
          · rw [tgl_next f hl, addT, if_neg (fun e => e.2 d)]; exact hI
          · show i.labels.length - (IntKind.i64.wrap ((y : Int) + 1)).toNat < i.labels.length - ((y : Int)).toNat
            rw [wrap1 (by omega)]; omega
        · obtain ⟨k, hk⟩ := Int.eq_ofNat_of_zero_le c
          have hkn : k < f.blocks.length := by have := (fnd_lt hn l).2; omega
          have h10 := hI.g10 k hkn
          rw [hk] at d
          have hpl := PP_len f x k
          simp only [d, if_false, List.append_nil] at h10
          have ha1 : app (tgl f (i.labels.take y)) [(k : Int)] = some (tgl f (i.labels.take y) ++ [(k : Int)]) := app_ok (by simp; omega)
          have ha2 : app (PP f x k) [(x : Int)] = some (PP f x k ++ [(x : Int)]) := app_ok (by simp; omega)
          have hs1 : setI a9 (x : Int) (tgl f (i.labels.take y) ++ [(k : Int)]) = some (a9.set x (tgl f (i.labels.take y) ++ [(k : Int)])) := setI_nat (by rw [hI.l9]; exact hx)
          have hs2 : setI a10 (k : Int) (PP f x k ++ [(x : Int)]) = some (a10.set k (PP f x k ++ [(x : Int)])) := setI_nat (by rw [hI.l10]; exact hkn)
          have hk0 : (0 : Int) ≤ (k : Int) := by omega
          simp only [hk, hk0, d, decide_true, decide_false, if_true, Bool.not_false, Option.bind_some, ha1, hs1, idx_nat h10, ha2, hs2]
          refine ⟨_, rfl, ⟨y + 1, wrap1 (by omega), by omega, ?_⟩, ?_⟩
          · rw [tgl_next f hl, addT, if_pos ⟨c, by rw [hk]; exact d⟩, hk]
            refine ⟨by simp [hI.l9], by simp [hI.l10], ?_, ?_⟩
            · intro j hj
              by_cases e : j = x
              · subst e; rw [List.getElem?_set_self (by rw [hI.l9]; exact hx)]; simp
              · rw [List.getElem?_set_ne (by omega), hI.g9 j hj]; simp [e]
            · intro j hj
              by_cases e : j = k
              · subst e; rw [List.getElem?_set_self (by rw [hI.l10]; exact hj)]; simp
              · rw [List.getElem?_set_ne (by omega), hI.g10 j hj]
                have : ¬ ((j : Int) = (k : Int)) := by omega
                simp [this]
          · show i.labels.length - (IntKind.i64.wrap ((y : Int) + 1)).toNat < i.labels.length - ((y : Int)).toNat
            rw [wrap1 (by omega)]; omega
      · simp only [c, decide_false, if_true, Bool.false_eq_true, if_false, Option.bind_some]
        refine ⟨_, rfl, ⟨y + 1, wrap1 (by omega), by omega, ?_⟩, ?_⟩
        · rw [tgl_next f hl, addT, if_neg (fun e => c e.1)]; exact hI
        · show i.labels.length - (IntKind.i64.wrap ((y : Int) + 1)).toNat < i.labels.length - ((y : Int)).toNat
          rw [wrap1 (by omega)]; omega
    · right; left
      have hlt' : ¬ ((y : Int) < (i.labels.length : Int)) := by omega
      simp only [hlt', decide_false, Bool.false_eq_true, if_false]
      refine ⟨_, rfl, ?_⟩
      have : y = i.labels.length := by omega
      subst this
      simpa using hI
theorem NI_next {f : Fnc} {x : Nat} {d9 d10 : List (List Int)} (h : NI f x (TT f x) d9 d10) : NI f (x + 1) [] d9 d10 := by
  refine ⟨h.l9, h.l10, ?_, ?_⟩
  · intro j hj
    rw [h.g9 j hj]
    by_cases e : j = x
    · subst e; simp
    · by_cases c : j < x
      · have : j ≠ x + 1 := by omega
        simp [e, c, this, show j < x + 1 by omega]
      · have : ¬ j < x + 1 := by omega
        simp [e, c, this]
  · intro j hj
    rw [h.g10 j hj, PP_next]
    simp
theorem last_ok {f : Fnc} (hn : fOk f) {b : Bl} (hb : b ∈ f.blocks) (fuel : Nat) : (∃ i, lastB b = some i ∧ p_graph_last fuel b = some (i, true)) ∨ (lastB b = none ∧ ∃ z, p_graph_last fuel b = some (z, false)) := by
  have hc := (hn.2 b hb).1
  unfold p_graph_last p_op_Last
  by_cases h0 : b.code.length = 0
  · right
    have : lastB b = none := by
      unfold lastB
      have : b.code = [] := List.eq_nil_of_length_eq_zero h0
      simp [this]
    exact ⟨this, _, by simp [h0]; rfl⟩
  · obtain ⟨x, hx, hx'⟩ := last_idx hc h0
    have hp : ¬ ((b.code.length : Int) = 0) := by omega
    simp only [hp, decide_false, Bool.false_eq_true, if_false, hx', Option.bind_some]
    unfold lastB
    rw [hx]
    by_cases c : 20 ≤ x.op ∧ x.op ≤ 23
    · left; exact ⟨x, by simp [c], by simp [c]⟩
    · right; exact ⟨by simp [c], x, by simp only [Option.some.injEq, Prod.mk.injEq, true_and, Bool.and_eq_false_iff, decide_eq_false_iff_not]; omega⟩
theorem new_f {f : Fnc} (hn : fOk f) {fuel : Nat} (hf : 1048577 < fuel) : ∃ g, p_graph_New fuel f = some g ∧ g.succ.length = f.blocks.length ∧ g.pred.length = f.blocks.length ∧
    (∀ j, j < f.blocks.length → g.succ[j]? = some (TT f j)) ∧ ∀ j : Nat, j < f.blocks.length → g.pred[j]? = some (PP f f.blocks.length j) := by
  have hn1 := hn.1
  unfold p_graph_New
  rw [mk_nat (by omega)]
  simp only [Option.bind_some]
  refine Or.elim (loopE_inv (fun s : List (List Int) × List (List Int) × Int => ∃ x : Nat, s.2.2 = x ∧ x ≤ f.blocks.length ∧ NI f x [] s.1 s.2.1) (fun s => NI f f.blocks.length [] s.1 s.2.1) (fun _ : graph_Graph => False) (fun s => f.blocks.length - s.2.2.toNat)
    (fun s => p_graph_New_b1 fuel f s.1 s.2.1 s.2.2) ?_ fuel (List.replicate f.blocks.length [], List.replicate f.blocks.length [], 0) ⟨0, rfl, by omega, ?_⟩ (by simp; omega)) ?_ ?_
  rotate_left
  · refine ⟨by simp, by simp, ?_, ?_⟩
    · intro j hj; simp [List.getElem?_replicate, hj]
    · intro j hj; simp [List.getElem?_replicate, hj, PP]
  · rintro ⟨⟨d9, d10, z⟩, h1, h2⟩
    rw [h1]
    refine ⟨⟨d9, d10⟩, rfl, h2.l9, h2.l10, ?_, ?_⟩
    · intro j hj
      have := h2.g9 j hj
      simpa [hj, show j ≠ f.blocks.length by omega] using this
    · intro j hj
      simpa using h2.g10 j hj
  · rintro ⟨v, _, h⟩; exact h.elim
  · rintro ⟨a9, a10, q⟩ ⟨x, hq, hx, hI⟩
    simp only at hq hI
    subst hq
    show (∃ s', p_graph_New_b1 fuel f a9 a10 (x : Int) = some (.n s') ∧ _) ∨ (∃ s', p_graph_New_b1 fuel f a9 a10 (x : Int) = some (.b s') ∧ _) ∨ _
    unfold p_graph_New_b1
    by_cases hlt : x < f.blocks.length
    · left
      obtain ⟨b, hb⟩ := getAt hlt
      have hm := List.mem_of_getElem? hb
      have hlt' : (x : Int) < (f.blocks.length : Int) := by omega
      have hT : TT f x = tg f b := by unfold TT; rw [hb]
      have done : ∀ d9 d10, NI f x (TT f x) d9 d10 → ((fun s : List (List Int) × List (List Int) × Int => ∃ x : Nat, s.2.2 = x ∧ x ≤ f.blocks.length ∧ NI f x [] s.1 s.2.1) (d9, d10, IntKind.i64.wrap ((x : Int) + 1)) ∧ f.blocks.length - (IntKind.i64.wrap ((x : Int) + 1)).toNat < f.blocks.length - ((x : Int)).toNat) := by
        intro d9 d10 h
        rw [wrap1 (by omega)]
        exact ⟨⟨x + 1, rfl, by omega, NI_next h⟩, by omega⟩
      simp only [hlt', decide_true, if_true, idx_nat hb, Option.bind_some]
      rcases last_ok hn hm fuel with ⟨i, h1, h2⟩ | ⟨h1, z, h2⟩
      · obtain ⟨d9, d10, h3, z, h4⟩ := new_b2 hn hf hlt (lastB_len hn hm h1) hI
        simp only [h2, Option.bind_some, Bool.not_true, Bool.false_eq_true, if_false, h4, bindE]
        have ht : TT f x = tgl f i.labels := by rw [hT]; unfold tg; rw [h1]
        rw [← ht] at h3
        exact ⟨_, rfl, (done d9 d10 h3).1, (done d9 d10 h3).2⟩
      · simp only [h2, Option.bind_some, Bool.not_false, if_true]
        have ht : TT f x = [] := by rw [hT]; unfold tg; rw [h1]
        have h3 := hI
        rw [← ht] at h3
        exact ⟨_, rfl, (done a9 a10 h3).1, (done a9 a10 h3).2⟩
    · right; left
      have hlt' : ¬ ((x : Int) < (f.blocks.length : Int)) := by omega
      simp only [hlt', decide_false, Bool.false_eq_true, if_false]
      refine ⟨_, rfl, ?_⟩
      have : x = f.blocks.length := by omega
      subst this
      exact hI
end Go.Proofs.Ytodafoajkajnkaa.PL
