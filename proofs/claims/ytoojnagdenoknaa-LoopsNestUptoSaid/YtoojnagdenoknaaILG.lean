/- The ideal logic: what an argument that reads as data is, as an ideal value. -/
import Derived.Test.YtoojnagdenoknaaIL16
import Derived.Test.YtoojnagdenoknaaRows
import Derived.Carry
set_option linter.unusedSectionVars false
set_option linter.unnecessarySimpa false
set_option linter.unusedVariables false
set_option linter.unusedSimpArgs false
namespace Go.Proofs.Ytoojnagdenoknaa.IL
open Go Go.RowKit
mutual
def bk : IV → Nat
  | .str s => s.size + 1
  | .sim rows _ => bkR rows + 1
  | _ => 1
def bkL : List IV → Nat
  | [] => 0
  | v :: r => bk v + bkL r
def bkR : List (List IV) → Nat
  | [] => 0
  | v :: r => bkL v + bkR r
end
theorem bkL_append (a b : List IV) : bkL (a ++ b) = bkL a + bkL b := by
  induction a with
  | nil => simp [bkL]
  | cons x a ih => simp only [List.cons_append, bkL, ih]; omega
def ShapeF (sh : TypeId → List IV → Prop) : List Field → List IV → Prop
  | [], ivs => ivs = []
  | f :: fs, ivs => ∃ a b, ivs = a ++ b ∧ sh f.type a ∧ ShapeF sh fs b
def Shape (P : Program) : Nat → TypeId → List IV → Prop
  | 0, _, _ => False
  | n + 1, t, ivs => match P.underlying t with
    | some .bool => ∃ b, ivs = [.bool b]
    | some (.int k) => ∃ z, ivs = [.int k z] ∧ (Lit.int k z).wf = true
    | some .string => ∃ s, ivs = [.str s]
    | some (.slice e) => ∃ rows, ivs = [.sim rows false] ∧ ∀ r ∈ rows, Shape P n e r
    | some (.struct fs) => ShapeF (Shape P n) fs.toList ivs
    | some (.array m e) => ∃ parts : List (List IV), ivs = parts.flatten ∧ parts.length = m ∧ ∀ p ∈ parts, Shape P n e p
    | _ => False
def tiled (P : Program) : Nat → List Field → Option Nat
  | off, [] => some off
  | off, f :: fs => if f.offset = off then tiled P (off + P.cellsOf f.type) fs else none
def okT (P : Program) : Nat → TypeId → Bool
  | 0, _ => false
  | n + 1, t => match P.underlying t with
    | some .bool | some (.int _) | some .string => true
    | some (.slice e) => okT P n e
    | some (.struct fs) => (fs.toList.all fun f => okT P n f.type) && tiled P 0 fs.toList == some (P.cellsOf t)
    | some (.array m e) => okT P n e && m * P.cellsOf e == P.cellsOf t
    | _ => false
def Vs (w : World) (ivs : List IV) (cs : List Value) : Prop := ivs.length = cs.length ∧ ∀ (k : Nat) (v : IV) (u : Value), ivs[k]? = some v → cs[k]? = some u → VR (fun _ => none) (fun a x => kno w a = some x) v u
theorem Vs.one {w : World} {v : IV} {u : Value} (h : VR (fun _ => none) (fun a x => kno w a = some x) v u) : Vs w [v] [u] := by
  refine ⟨rfl, fun k x y hx hy => ?_⟩
  cases k with
  | zero => simp at hx hy; subst hx; subst hy; exact h
  | succ k => simp at hx
theorem Vs.append {w : World} {a b : List IV} {c d : List Value} (h : Vs w a c) (k : Vs w b d) : Vs w (a ++ b) (c ++ d) := by
  refine ⟨by simp [h.1, k.1], fun n v u hv hu => ?_⟩
  by_cases hn : n < a.length
  · rw [List.getElem?_append_left hn] at hv
    rw [List.getElem?_append_left (by rw [← h.1]; exact hn)] at hu
    exact h.2 n v u hv hu
  · rw [List.getElem?_append_right (by omega)] at hv
    rw [List.getElem?_append_right (by rw [← h.1]; omega), ← h.1] at hu
    exact k.2 _ v u hv hu
theorem zzG {α : Type} (l : List α) (a b : Nat) : (l.drop a).take b ++ l.drop (a + b) = l.drop a := by
  rw [← List.drop_drop, List.take_append_drop]
theorem yr {α β : Type} {f : α → Option β} {x : α} {xs : List α} {ys : List β} (h : (x :: xs).mapM f = some ys) : ∃ y r, f x = some y ∧ xs.mapM f = some r ∧ ys = y :: r := by
  rw [List.mapM_cons] at h
  cases hf : f x with
  | none => simp [hf] at h
  | some y =>
    cases hm : xs.mapM f with
    | none => simp [hf, hm] at h
    | some r => simp [hf, hm] at h; exact ⟨y, r, rfl, rfl, h.symm⟩
theorem bulk_cons {H : Type} (x : DataW H) (l : List (DataW H)) : Rows.uptoBulkAll (x :: l) = Rows.uptoBulk x + Rows.uptoBulkAll l := by simp [Rows.uptoBulkAll]
def ReadAt (P : Program) (w : World) (n : Nat) {H : Type} (t : TypeId) (cs : List Value) (d : DataW H) : Prop := ∃ ivs, Vs w ivs cs ∧ Shape P n t ivs ∧ bkL ivs ≤ Rows.uptoBulk d
theorem read_fields {P : Program} {w : World} {n : Nat} {H : Type} {rd : TypeId → List Value → Option (DataW H × List MemPlace)} (hrd : ∀ t cs d ps, okT P n t = true → rd t cs = some (d, ps) → ReadAt P w n t cs d) (cs : List Value) :
    ∀ (fs : List Field) (off tot : Nat) (xs : List (DataW H × List MemPlace)), (∀ f ∈ fs, okT P n f.type = true) → tiled P off fs = some tot → cs.length = tot →
      (fs.mapM fun f => rd f.type ((cs.drop f.offset).take (P.cellsOf f.type))) = some xs → ∃ ivs, Vs w ivs (cs.drop off) ∧ ShapeF (Shape P n) fs ivs ∧ bkL ivs ≤ Rows.uptoBulkAll (xs.map (·.1))
  | [], off, tot, xs, _, ht, hl, hm => by
    simp only [tiled, Option.some.injEq] at ht
    simp at hm
    subst hm
    refine ⟨[], ⟨by simp; omega, by simp⟩, rfl, by simp [bkL]⟩
  | f :: fs, off, tot, xs, hok, ht, hl, hm => by
    simp only [tiled] at ht
    split at ht
    · rename_i ho
      obtain ⟨⟨d, ps⟩, r, h1, h2, rfl⟩ := yr hm
      rw [ho] at h1
      obtain ⟨a, a1, a2, a3⟩ := hrd f.type _ d ps (hok f (by simp)) h1
      obtain ⟨b, b1, b2, b3⟩ := read_fields hrd cs fs _ tot r (fun g hg => hok g (by simp [hg])) ht hl h2
      refine ⟨a ++ b, ?_, ⟨a, b, rfl, a2, b2⟩, ?_⟩
      · have := a1.append b1
        rwa [zzG] at this
      · simp only [List.map_cons, bulk_cons, bkL_append]
        omega
    · cases ht
theorem read_array {P : Program} {w : World} {n : Nat} {H : Type} {e : TypeId} {rd : List Value → Option (DataW H × List MemPlace)} (hrd : ∀ cs d ps, rd cs = some (d, ps) → ReadAt P w n e cs d) (cs : List Value) :
    ∀ (m k : Nat) (xs : List (DataW H × List MemPlace)), cs.length = (k + m) * P.cellsOf e → ((List.range' k m).mapM fun i => rd ((cs.drop (i * P.cellsOf e)).take (P.cellsOf e))) = some xs →
      ∃ parts : List (List IV), Vs w parts.flatten (cs.drop (k * P.cellsOf e)) ∧ parts.length = m ∧ (∀ p ∈ parts, Shape P n e p) ∧ bkL parts.flatten ≤ Rows.uptoBulkAll (xs.map (·.1))
  | 0, k, xs, hl, hm => by
    simp at hm
    subst hm
    exact ⟨[], ⟨by simp at hl ⊢; omega, by simp⟩, rfl, by simp, by simp [bkL]⟩
  | m + 1, k, xs, hl, hm => by
    rw [List.range'_succ] at hm
    obtain ⟨⟨d, ps⟩, r, h1, h2, rfl⟩ := yr hm
    obtain ⟨a, a1, a2, a3⟩ := hrd _ d ps h1
    obtain ⟨b, b1, b2, b3, b4⟩ := read_array hrd cs m (k + 1) r (by rw [hl]; congr 1; omega) h2
    refine ⟨a :: b, ?_, by simp [b2], ?_, ?_⟩
    · rw [List.flatten_cons]
      have := a1.append b1
      rwa [Nat.add_mul, Nat.one_mul, zzG] at this
    · intro p hp
      rcases List.mem_cons.1 hp with rfl | hp
      · exact a2
      · exact b3 p hp
    · simp only [List.flatten_cons, List.map_cons, bulk_cons, bkL_append]
      omega
theorem cells_get {w : World} {a : Addr} {n : Nat} {cs : List Value} (h : w.cells? 0 a n = some cs) : cs.length = n ∧ ∀ (k : Nat) (u : Value), cs[k]? = some u → w.cell? (a.add k) = some u := by
  simp only [World.cells?, Nat.zero_le, if_true] at h
  have key : ∀ (m s : Nat) (l : List Value), ((List.range' s m).mapM fun i => w.cell? (a.add i)) = some l → l.length = m ∧ ∀ (k : Nat) (u : Value), l[k]? = some u → w.cell? (a.add (s + k)) = some u := by
    intro m
    induction m with
    | zero => intro s l hl; simp at hl; subst hl; simp
    | succ m ih =>
      intro s l hl
      rw [List.range'_succ] at hl
      obtain ⟨y, r, h1, h2, rfl⟩ := yr hl
      obtain ⟨i1, i2⟩ := ih (s + 1) r h2
      refine ⟨by simp [i1], fun k u hk => ?_⟩
      cases k with
      | zero => simp at hk; subst hk; simpa using h1
      | succ k => have := i2 k u (by simpa using hk); rwa [show s + (k + 1) = s + 1 + k by omega]
  rw [List.range_eq_range'] at h
  obtain ⟨k1, k2⟩ := key n 0 cs h
  exact ⟨k1, fun k u hk => by simpa using k2 k u hk⟩
theorem read_rows {P : Program} {w : World} {n : Nat} {H : Type} {e : TypeId} {rd : List Value → Option (DataW H × List MemPlace)} (hrd : ∀ cs d ps, rd cs = some (d, ps) → ReadAt P w n e cs d) (a : Addr) :
    ∀ (m k : Nat) (xs : List (DataW H × List MemPlace)), ((List.range' k m).mapM fun i => (w.cells? 0 (a.add (i * P.cellsOf e)) (P.cellsOf e)).bind rd) = some xs →
      ∃ rows : List (List IV), rows.length = m ∧ (∀ r ∈ rows, Shape P n e r) ∧ bkR rows ≤ Rows.uptoBulkAll (xs.map (·.1)) ∧
        ∀ (i : Nat) (row : List IV), rows[i]? = some row → ∃ cs, w.cells? 0 (a.add ((k + i) * P.cellsOf e)) (P.cellsOf e) = some cs ∧ Vs w row cs
  | 0, k, xs, hm => by
    simp at hm
    subst hm
    exact ⟨[], rfl, by simp, by simp [bkR], by simp⟩
  | m + 1, k, xs, hm => by
    rw [List.range'_succ] at hm
    obtain ⟨⟨d, ps⟩, r, h1, h2, rfl⟩ := yr hm
    rw [Option.bind_eq_some_iff] at h1
    obtain ⟨cs, hcs, h1⟩ := h1
    obtain ⟨a1, b1, b2, b3⟩ := hrd _ d ps h1
    obtain ⟨rows, c1, c2, c3, c4⟩ := read_rows hrd a m (k + 1) r h2
    refine ⟨a1 :: rows, by simp [c1], ?_, ?_, ?_⟩
    · intro p hp
      rcases List.mem_cons.1 hp with rfl | hp
      · exact b2
      · exact c2 p hp
    · simp only [List.map_cons, bulk_cons, bkR]
      omega
    · intro i row hi
      cases i with
      | zero => simp at hi; subst hi; exact ⟨cs, by simpa using hcs, b1⟩
      | succ i =>
        obtain ⟨cs', h3, h4⟩ := c4 i row (by simpa using hi)
        exact ⟨cs', by rwa [show k + (i + 1) = k + 1 + i by omega], h4⟩
theorem trod_iv {P : Program} {w : World} {H : Type} {enc : TypeId × Value → H} {spare : Nat → Bool} {held : Bool} : ∀ (n fuel : Nat) (t : TypeId) (cs : List Value) (d : DataW H) (ps : List MemPlace), okT P n t = true →
    DataW.trod enc P w 0 spare held fuel t cs = some (d, ps) → ReadAt P w n t cs d
  | 0, _, _, _, _, _, hok, _ => by simp [okT] at hok
  | n + 1, 0, _, _, _, _, _, h => by simp [DataW.trod] at h
  | n + 1, fuel + 1, t, cs, d, ps, hok, h => by
    have hrd : ∀ t cs d ps, okT P n t = true → DataW.trod enc P w 0 spare held fuel t cs = some (d, ps) → ReadAt P w n t cs d := fun t cs d ps ho h => trod_iv n fuel t cs d ps ho h
    unfold okT at hok
    cases hu : P.underlying t with
    | none => simp [hu] at hok
    | some D =>
      simp only [hu] at hok
      unfold DataW.trod at h
      simp only [hu] at h
      unfold ReadAt
      simp only [Shape, hu]
      cases D <;> simp only at hok h ⊢ <;> try (cases hok; done)
      case bool =>
        split at h
        · rename_i b he; cases h
          exact ⟨[.bool b], .one (.bool b), ⟨b, rfl⟩, by simp [bkL, bk, Rows.uptoBulk]⟩
        all_goals first | (cases h; done) | simp_all
      case int k =>
        rcases cs with _ | ⟨c, _ | ⟨c2, r⟩⟩
        · simp at h
        · cases c <;> simp only at h <;> try (cases h; done)
          rename_i k' z
          split at h
          · rename_i hc
            obtain ⟨rfl, hwf⟩ := hc
            cases h
            exact ⟨[.int _ z], .one (.int _ z), ⟨z, rfl, hwf⟩, by simp [bkL, bk, Rows.uptoBulk]⟩
          · cases h
        · cases c <;> simp at h
      case string =>
        split at h
        all_goals first | (cases h; done) | skip
        all_goals first
          | (rename_i s he
             split at h
             · cases h
               refine ⟨[.str s], .one (.str s), ⟨s, rfl⟩, ?_⟩
               simp [bkL, bk, Rows.uptoBulk]
             · cases h)
          | simp_all
      case slice e =>
        rcases cs with _ | ⟨c, _ | ⟨c2, r⟩⟩
        · simp at h
        · cases c <;> (try simp only at h) <;> try (cases h; done)
          rename_i oa len cap
          cases oa with
          | none =>
            cases len <;> cases cap <;> (try simp only at h) <;> try (cases h; done)
            cases h
            exact ⟨[.sim [] false], .one .simnil, ⟨[], rfl, by simp⟩, by simp [bkL, bk, bkR, Rows.uptoBulk]⟩
          | some a =>
            try simp only at h
            split at h
            · rename_i hc
              rw [Option.bind_eq_some_iff] at h
              obtain ⟨elems, h1, h2⟩ := h
              rw [Option.map_eq_some_iff] at h2
              obtain ⟨rest, h3, h4⟩ := h2
              cases h4
              rw [List.range_eq_range'] at h1
              obtain ⟨rows, c1, c2, c3, c4⟩ := read_rows (P := P) (w := w) (n := n) (e := e) (rd := DataW.trod enc P w 0 spare held fuel e) (fun cs d ps h => hrd e cs d ps hok h) a len 0 elems h1
              refine ⟨[.sim rows false], .one ?_, ⟨rows, rfl, c2⟩, ?_⟩
              · have hlen : ∀ (r : Nat) (row : List IV), rows[r]? = some row → row.length = P.cellsOf e := by
                  intro r row hr
                  obtain ⟨cs', g1, g2⟩ := c4 r row hr
                  rw [g2.1, (cells_get g1).1]
                have := VR.sim (J := fun _ => none) (S := fun a x => kno w a = some x) (rows := rows) (full := false) (c := cap) (E := P.cellsOf e) (base := a) (f := fun r k => (w.cell? (a.add (r * P.cellsOf e + k))).getD undef) hlen
                  (fun r row k v hr hk => by
                    obtain ⟨cs', g1, g2⟩ := c4 r row hr
                    have hk' : k < cs'.length := by rw [← g2.1]; exact (List.getElem?_eq_some_iff.1 hk).1
                    have := (cells_get g1).2 k cs'[k] (by simp [hk'])
                    rw [zzQ, Nat.zero_add] at this
                    show w.cell? _ = _
                    rw [this]; rfl)
                  (fun r row k v hr hk => by
                    obtain ⟨cs', g1, g2⟩ := c4 r row hr
                    have hk' : k < cs'.length := by rw [← g2.1]; exact (List.getElem?_eq_some_iff.1 hk).1
                    have := (cells_get g1).2 k cs'[k] (by simp [hk'])
                    rw [zzQ, Nat.zero_add] at this
                    rw [this]
                    exact g2.2 k v cs'[k] hk (by simp [hk']))
                  (by rw [c1]; exact hc.2.1) (by simp)
                rw [c1] at this
                exact this
              · simp only [bkL, bk, Rows.uptoBulk]
                omega
            · cases h
        · cases c <;> simp at h
      case struct fs =>
        simp only [Bool.and_eq_true, List.all_eq_true, beq_iff_eq] at hok
        split at h
        · rename_i hl
          rw [Option.map_eq_some_iff] at h
          obtain ⟨xs, h1, h2⟩ := h
          cases h2
          obtain ⟨ivs, a1, a2, a3⟩ := read_fields (P := P) (w := w) (n := n) (rd := DataW.trod enc P w 0 spare held fuel) hrd cs fs.toList 0 _ xs hok.1 hok.2 hl h1
          refine ⟨ivs, by simpa using a1, a2, ?_⟩
          simp only [Rows.uptoBulk]
          omega
        · cases h
      case array m e =>
        simp only [Bool.and_eq_true, beq_iff_eq] at hok
        split at h
        · rename_i hl
          rw [Option.map_eq_some_iff] at h
          obtain ⟨xs, h1, h2⟩ := h
          cases h2
          rw [List.range_eq_range'] at h1
          obtain ⟨parts, a1, a2, a3, a4⟩ := read_array (P := P) (w := w) (n := n) (e := e) (rd := DataW.trod enc P w 0 spare held fuel e) (fun cs d ps h => hrd e cs d ps hok.1 h) cs m 0 xs (by rw [hl, Nat.zero_add, hok.2]) h1
          refine ⟨parts.flatten, by simpa using a1, ⟨parts, rfl, a2, a3⟩, ?_⟩
          simp only [Rows.uptoBulk]
          omega
        · cases h
end Go.Proofs.Ytoojnagdenoknaa.IL
