/- The pure layer: sorting, out of the library's contract. Nothing here speaks of a given program. -/
import Derived.Test.YtodafoajkajnkaaPL2
import Derived.Sort.Grow
set_option linter.unusedVariables false
set_option linter.unusedSimpArgs false
namespace Go.Proofs.Ytodafoajkajnkaa.IL
open Go Go.RowKit PL Go.Sort

theorem putCells_get (d : Array Int) (off : Nat) (c : Array Value) (k : Nat) : (putCells (Value.int .i64) off d c)[k]? = (c[k]?).map fun x => if off ≤ k ∧ k < off + d.size then .int .i64 d[k - off]! else x := by
  unfold putCells
  rw [Array.getElem?_mapIdx]
theorem sort_callW {P : Program} {f : FuncId}
    (hs : ∀ (blk off cap : Nat) (zs : List Int) (w : World), Holds (Value.int .i64) w blk off zs.toArray → blk < w.heap.size → zs.length < 4611686018427387904 → Calls P f #[.slice (some ⟨blk, off, none⟩) zs.length cap] w fun e w' =>
      e = .returned (.tuple #[]) ∧ ∃ n os, w' = grow (putRow (Value.int .i64) (Sort.ahead w n) blk off (zs.mergeSort fun x y => decide (x ≤ y)).toArray) os)
    (hn : ∀ (p : Option Addr) (cap : Nat) (w : World), Calls P f #[.slice p 0 cap] w fun e w' => e = .returned (.tuple #[]) ∧ w' = w)
    (hc : Callable P f) {l : List Int} (hl : l.length ≤ 4294967296) {k : Nat} {v : IV} {H : Heap} (o : Own [k] H v 1 (l.map eInt)) :
    CallW P f [v] H (fun rv H' => rv = (.tup [] : IV) ∧ KH [k] H' H ∧ Own [k] H' v 1 ((l.mergeSort fun x y => decide (x ≤ y)).map eInt)) := by
  refine ⟨hc, fun J S w us hH ha => ?_⟩
  obtain ⟨u, rfl, hu⟩ := ha.one
  have hlen : (l.mergeSort fun x y => decide (x ≤ y)).length = l.length := List.length_mergeSort l
  generalize hd : l.mergeSort (fun x y => decide (x ≤ y)) = d at *
  have none_case : ∀ (p : Option Addr) (c : Nat), u = .slice p 0 c → l = [] → Calls P f #[u] w fun e w' => ∃ J' S' u' rv H', e = .returned u' ∧ (rv = (.tup [] : IV) ∧ KH [k] H' H ∧ Own [k] H' v 1 (d.map eInt)) ∧ VR J' S' rv u' ∧ RelH J' S' H' w' ∧ Ext J S H w J' S' H' w' := by
    intro p c e hl0
    subst e
    subst hl0
    have hd0 : d = [] := List.length_eq_zero_iff.1 (by simpa using hlen)
    subst hd0
    refine (hn p c w).mono ?_
    rintro e w' ⟨rfl, rfl⟩
    exact ⟨J, S, _, .tup [], H, rfl, ⟨rfl, fun _ _ => rfl, o⟩, .tup rfl (by simp), hH, .refl⟩
  rcases o with ⟨rfl, e⟩ | ⟨id, i, full, b, h1, rfl, h3, h4, h5, h6⟩
  · cases hu
    exact none_case none 0 rfl (by simpa using e)
  · simp only [List.length_map] at *
    cases hu with
    | sb hJ hcl hz hf =>
      rename_i L c ad
      by_cases hl0 : l.length = 0
      · have : l = [] := List.length_eq_zero_iff.1 hl0
        exact none_case (some ad) c (by rw [hl0]) this
      · obtain ⟨z1, z2⟩ := hz (by omega)
        obtain ⟨L', hL', hat⟩ := hH.blk id b h3
        rw [hJ] at hL'; cases hL'
        obtain ⟨cs, t, g1, g2, g3⟩ := hat.cell
        have hE : L.E = 1 := by rw [hat.E, h4]
        have hbE : b.E = 1 := h4
        have hrow : ∀ (j : Nat) (hj : j < l.length), b.rows[i + j]? = some [IV.int .i64 l[j]] := by
          intro j hj
          have : (l.map eInt)[j]? = some [IV.int .i64 l[j]] := by simp [hj, eInt]
          rw [← h6, List.getElem?_take, if_pos hj, List.getElem?_drop] at this
          exact this
        have hcell : ∀ (j : Nat) (hj : j < l.length), cs[L.ro + i + j]? = some (.int .i64 l[j]) := by
          intro j hj
          obtain ⟨u, hu, hv⟩ := g3 (i + j) _ 0 _ (hrow j hj) rfl
          rw [hbE] at hu
          cases hv
          rw [← hu]; congr 1; omega
        have hrb : L.rb < w.heap.size := heap_lt g1
        have hH0 : Holds (Value.int .i64) w L.rb (L.ro + i) l.toArray := by
          intro j hj
          have hj' : j < l.length := by simpa using hj
          refine ⟨?_, by simp [World.frozen?, g1]⟩
          rw [cell_at g1, hcell j hj']
          simp [hj']
        subst z1
        rw [hE, Nat.mul_one]
        refine (hs L.rb (L.ro + i) c l w hH0 hrb (by omega)).mono ?_
        rw [hd]
        rintro e w' ⟨rfl, n, os, rfl⟩
        have hheap : ∀ q, q < w.heap.size → q ≠ L.rb → (grow (putRow (Value.int .i64) (Sort.ahead w n) L.rb (L.ro + i) d.toArray) os).heap[q]? = w.heap[q]? := by
          intro q hq hne
          rw [heap_grow_old _ _ (by simpa using hq)]
          simp [putRow, mapBlock, Sort.ahead, Array.getElem?_modify, Ne.symm hne]
        have hhb : (grow (putRow (Value.int .i64) (Sort.ahead w n) L.rb (L.ro + i) d.toArray) os).heap[L.rb]? = some (.cells (putCells (Value.int .i64) (L.ro + i) d.toArray cs) t (0, 0)) := by
          rw [heap_grow_old _ _ (by simpa using hrb)]
          simp [putRow, mapBlock, Sort.ahead, Array.getElem?_modify, g1, onCells]
        have hsz : (putCells (Value.int .i64) (L.ro + i) d.toArray cs).size = cs.size := by simp [putCells]
        have hnew : ∀ (j : Nat) (hj : j < d.length), (b.rows.take i ++ d.map eInt ++ b.rows.drop (i + d.length))[i + j]? = some (eInt d[j]) := by
          intro j hj
          rw [List.append_assoc, List.getElem?_append_right (by simp; omega), List.getElem?_append_left (by simp; omega)]
          simp only [List.length_take]
          rw [show i + j - min i b.rows.length = j by omega]
          simp [hj]
        have hold : ∀ (q : Nat), ¬ (i ≤ q ∧ q < i + d.length) → (b.rows.take i ++ d.map eInt ++ b.rows.drop (i + d.length))[q]? = b.rows[q]? := by
          intro q hq
          have hib : i ≤ b.rows.length := by omega
          by_cases h : q < i
          · rw [List.append_assoc, List.getElem?_append_left (by simp; omega), List.getElem?_take, if_pos h]
          · rw [List.getElem?_append_right (by simp; omega), List.getElem?_drop]
            congr 1
            simp only [List.length_append, List.length_take, List.length_map]
            omega
        have hrl : (b.rows.take i ++ d.map eInt ++ b.rows.drop (i + d.length)).length = b.rows.length := by simp; omega
        have hrel : RelH J S (H.put id ⟨b.E, b.rows.take i ++ d.map eInt ++ b.rows.drop (i + d.length)⟩) (grow (putRow (Value.int .i64) (Sort.ahead w n) L.rb (L.ro + i) d.toArray) os) := by
          refine ⟨fun id' b' hb' => ?_, fun id1 id2 b1 b2 L1 L2 hb1 hb2 hL1 hL2 hr => ?_, fun a x hx => ?_, fun id' L' hL' => ?_⟩
          · simp only [heap_put] at hb'
            split at hb'
            · rename_i e
              subst e
              cases hb'
              refine ⟨L, hJ, hat.E, ⟨_, t, hhb, by rw [hsz]; exact g2, fun q row o x hq ho => ?_⟩, fun q row hq => ?_, by simp only [hrl]; exact hat.fit⟩
              · by_cases hin : i ≤ q ∧ q < i + d.length
                · have e := hnew (q - i) (by omega)
                  rw [show i + (q - i) = q by omega] at e
                  simp only at hq
                  rw [e] at hq
                  cases hq
                  cases o with
                  | zero =>
                    simp [eInt] at ho
                    subst ho
                    refine ⟨.int .i64 d[q - i], ?_, .int _ _⟩
                    rw [putCells_get, hbE]
                    have hb : L.ro + q * 1 + 0 < cs.size := by
                      have := hat.fit
                      rw [hbE] at this
                      omega
                    rw [Array.getElem?_eq_getElem hb, Option.map_some, if_pos (by simp; omega)]
                    congr 2
                    rw [show L.ro + q * 1 + 0 - (L.ro + i) = q - i by omega]
                    have : q - i < d.length := by omega
                    simp [this]
                  | succ o => simp [eInt] at ho
                · simp only at hq
                  rw [hold q hin] at hq
                  obtain ⟨u, hu, hv⟩ := g3 q row o x hq ho
                  refine ⟨u, ?_, hv⟩
                  have hro : row.length = 1 := by rw [hat.row q row hq, hbE]
                  have ho1 : o < row.length := (List.getElem?_eq_some_iff.1 ho).1
                  rw [putCells_get, hu, Option.map_some, if_neg]
                  rw [hbE]
                  simp only [List.size_toArray]
                  omega
              · by_cases hin : i ≤ q ∧ q < i + d.length
                · have e := hnew (q - i) (by omega)
                  rw [show i + (q - i) = q by omega] at e
                  simp only at hq
                  rw [e] at hq
                  cases hq
                  simp [hbE]
                · simp only at hq
                  rw [hold q hin] at hq
                  exact hat.row q row hq
            · rename_i hne
              obtain ⟨L2, hL2, hat2⟩ := hH.blk id' b' hb'
              have hne2 : L2.rb ≠ L.rb := fun e => hne (hH.inj id' id b' b L2 L hb' h3 hL2 hJ e)
              obtain ⟨_, _, q1, _⟩ := hat2.cell
              exact ⟨L2, hL2, hat2.heap (hheap _ (heap_lt q1) hne2)⟩
          · have conv : ∀ id' b', (H.put id ⟨b.E, b.rows.take i ++ d.map eInt ++ b.rows.drop (i + d.length)⟩).get id' = some b' → ∃ b0, H.get id' = some b0 := by
              intro id' b' hb'
              simp only [heap_put] at hb'
              split at hb'
              · rename_i e; subst e; exact ⟨b, h3⟩
              · exact ⟨b', hb'⟩
            obtain ⟨c1, hc1⟩ := conv id1 b1 hb1
            obtain ⟨c2, hc2⟩ := conv id2 b2 hb2
            exact hH.inj id1 id2 c1 c2 L1 L2 hc1 hc2 hL1 hL2 hr
          · obtain ⟨s1, s2⟩ := hH.sure a x hx
            have hne : a.block ≠ L.rb := fun e => s2 ⟨id, b, L, h3, hJ, e.symm⟩
            have hab : a.block < w.heap.size := by
              unfold World.cell? at s1
              cases hq : w.heap[a.block]? with
              | none => simp [hq] at s1
              | some ob => exact heap_lt hq
            refine ⟨by rw [← s1]; simp only [World.cell?, hheap _ hab hne], ?_⟩
            rintro ⟨id', b', L', hb', hL', hr⟩
            simp only [heap_put] at hb'
            split at hb'
            · rename_i e; subst e; exact s2 ⟨_, b, L', h3, hL', hr⟩
            · exact s2 ⟨id', b', L', hb', hL', hr⟩
          · simpa using hH.next id' L' hL'
        refine ⟨J, S, _, .tup [], _, rfl, ⟨rfl, fun j hj => kh_put j (by simp at hj ⊢; exact fun e => hj (by rw [e]; simpa using h1)), .inr ⟨id, i, full, ⟨b.E, b.rows.take i ++ d.map eInt ++ b.rows.drop (i + d.length)⟩, h1, by simp [hlen], by simp only [heap_put, if_pos], h4, by rw [hrl, List.length_map, hlen]; exact h5, ?_⟩⟩, .tup rfl (by simp), hrel, ?_⟩
        · apply List.ext_getElem?
          intro q
          rw [List.getElem?_take]
          simp only [List.length_map]
          by_cases hq : q < d.length
          · rw [if_pos hq, List.getElem?_drop, hnew q hq]
            simp [hq]
          · rw [if_neg hq, List.getElem?_eq_none (by simp; omega)]
        · refine ⟨fun _ _ h => h, fun _ _ h => h, fun _ _ h => .inl h, ?_, fun q hq hno => hheap q hq (fun e => hno ⟨id, b, L, h3, hJ, e.symm⟩), by simp, rfl, rfl, rfl, fun _ => Nat.le_refl _⟩
          rintro x ⟨id', b', L', hb', hL', hr⟩
          simp only [heap_put] at hb'
          split at hb'
          · rename_i e; subst e; exact .inl ⟨_, b, L', h3, hL', hr⟩
          · exact .inl ⟨id', b', L', hb', hL', hr⟩
end Go.Proofs.Ytodafoajkajnkaa.IL
