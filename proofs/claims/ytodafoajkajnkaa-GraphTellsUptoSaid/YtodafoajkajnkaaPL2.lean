/- The pure layer, part 2: lists of lists that are owned. Nothing here speaks of a given program. -/
import Derived.Test.YtodafoajkajnkaaPX
set_option linter.unusedVariables false
set_option linter.unusedSimpArgs false
set_option linter.defProp false
namespace Go.Proofs.Ytodafoajkajnkaa.IL
open Go Go.RowKit PL

theorem Heap.wf.new {H : Heap} (h : H.wf) {k : Nat} {b : Blk} : (H.new k b).wf := by
  intro id c hc
  simp only [heap_new] at hc
  simp only [heap_new_next]
  split at hc
  · rename_i e
    subst e
    simp
  · have := h id c hc
    split
    · rename_i e; rw [e] at this; omega
    · exact this
theorem Heap.wf.new' {H : Heap} (h : H.wf) {k j : Nat} {b : Blk} : ((Eff.new b).app H k).wf := Heap.wf.new h

/-- A list is appended to: what is left alone. -/
theorem Own.appF {P : Program} {m : Mo} {a : Fr} {d ds : Nat} {t tx e e' : TypeId} {C C' A : TC} {zs : List IV} {D : List Nat} {H : Heap} {s x : IV} {E : Nat} {old new : List (List IV)} {K : IV → Heap → Prop}
    (h : Own D H s E old) (hs : a.b + d = ds) (ht : tc P t = some C) (hk : C.kd = .slice e) (htx : tc P tx = some C') (hk' : C'.kd = .slice e') (he : tc P e = some A) (hz : A.zero = some zs) (hE : A.size = E) (h1 : zs.length = E) (hB : A.bytes ≤ 32768)
    (hx : srows H E x = some new) (h2 : old.length + new.length ≤ 4294967296) (h4 : ∀ r ∈ new, ∀ v ∈ r, v.one = true)
    (hp : ∀ s0 p, m = some (s0, p) → ∀ i, slId s i → ∀ y ∈ p, ment (a.ev y) i = false)
    (k : ∀ v H', Own (ds :: D) H' v E (old ++ new) → (∀ i, ¬ slId s i → i ≠ ⟨ds, H.next ds⟩ → H'.get i = H.get i) → (∀ i, slId v i → slId s i ∨ i = ⟨ds, H.next ds⟩) → K v H') : someK m a d (iapp P H ds t tx s x) H K := by
  subst hs
  subst hE
  have ho := h.rd
  have hb2 : (old.length + new.length) * A.bytes ≤ 140737488355328 := Nat.le_trans (Nat.mul_le_mul h2 hB) (by decide)
  by_cases hn : new.length = 0
  · have : new = [] := List.length_eq_zero_iff.1 hn
    subst this
    simp only [iapp, ht, htx, hk, hk', he, hz, hx, ho]
    rw [if_pos hn]
    refine ⟨?_, k _ _ (by simpa using h.sub fun d hd => List.mem_cons_of_mem _ hd) (fun _ _ _ => rfl) (fun i hi => .inl hi)⟩
    rcases m with _ | ⟨s0, p⟩ <;> trivial
  have hcond : zs.length = A.size ∧ (old.length + new.length) * A.bytes ≤ 140737488355328 ∧ old.length + new.length ≤ 140737488355328 ∧ ∀ r ∈ new, ∀ v ∈ r, v.one = true := ⟨h1, hb2, by omega, h4⟩
  rcases h with ⟨rfl, rfl⟩ | ⟨id, i, full, b, g1, rfl, g3, g4, g5, g6⟩
  · simp only [iapp, ht, htx, hk, hk', he, hz, hx, ho]
    rw [if_neg hn, if_pos hcond]
    refine ⟨?_, k _ _ (Own.mk (id := H.fresh (a.b + d)) (by simp [Heap.fresh]) (by simp) (by simp)) (fun j hj hj2 => ?_) (fun j hj => ?_)⟩
    · rcases m with _ | ⟨s0, p⟩ <;> simp [okM]
    · simp only [app_new, heap_new]; rw [if_neg hj2]
    · simp only [slId, Heap.fresh] at hj; exact .inr hj
  · cases full with
    | true =>
      simp only [iapp, ht, htx, hk, hk', he, hz, hx, ho]
      rw [if_neg hn, if_pos hcond]
      refine ⟨?_, k _ _ (Own.mk (id := H.fresh (a.b + d)) (by simp [Heap.fresh]) (by simp) (by simp)) (fun j hj hj2 => ?_) (fun j hj => ?_)⟩
      · rcases m with _ | ⟨s0, p⟩ <;> simp [okM]
      · simp only [app_new, heap_new]; rw [if_neg hj2]
      · simp only [slId, Heap.fresh] at hj; exact .inr hj
    | false =>
      simp only [iapp, ht, htx, hk, hk', he, hz, hx, ho]
      rw [if_neg hn, if_pos hcond]
      refine ⟨?_, k _ _ (Own.mk (id := ⟨a.b + d, (H.del id).next (a.b + d)⟩) (by simp) (by simp) (by simp [Heap.fresh])) (fun j hj hj2 => ?_) (fun j hj => ?_)⟩
      · rcases m with _ | ⟨s0, p⟩
        · trivial
        · refine ⟨rfl, fun y hy => hp s0 p rfl id rfl y hy⟩
      · simp only [app_move, heap_new, heap_del_next, heap_del]
        rw [if_neg hj2, if_neg (show ¬ j = id from fun e => hj e)]
      · simp only [slId, Heap.fresh] at hj; exact .inr (by simpa using hj)

/-- A list of lists that is owned: each of its lists too, each in a block of its own. -/
def Own2 (D : List Nat) (H : Heap) (v : IV) (E : Nat) {α : Type} (f : α → List IV) (xss : List (List α)) : Prop :=
  ∃ ws : List IV, Own D H v 1 (ws.map fun w => [w]) ∧ ws.length = xss.length ∧ (∀ (j : Nat) (w : IV) (xs : List α), ws[j]? = some w → xss[j]? = some xs → Own D H w E (xs.map f)) ∧
    (∀ (j k : Nat) (w w' : IV), j ≠ k → ws[j]? = some w → ws[k]? = some w' → ∀ id, slId w id → ¬ slId w' id) ∧ ∀ (j : Nat) (w : IV), ws[j]? = some w → ∀ id, slId w id → ¬ slId v id

section own2
variable {D D' : List Nat} {H H' : Heap} {v : IV} {E : Nat} {α : Type} {f : α → List IV} {xss : List (List α)}
theorem Own2.same (h : Own2 D H v E f xss) (k : Same D H' H) : Own2 D H' v E f xss := by
  obtain ⟨ws, h1, h2, h3, h4, h5⟩ := h
  exact ⟨ws, h1.same k, h2, fun j w xs hw hx => (h3 j w xs hw hx).same k, h4, h5⟩
theorem Own2.sub (h : Own2 D H v E f xss) (k : ∀ d ∈ D, d ∈ D') : Own2 D' H v E f xss := by
  obtain ⟨ws, h1, h2, h3, h4, h5⟩ := h
  exact ⟨ws, h1.sub k, h2, fun j w xs hw hx => (h3 j w xs hw hx).sub k, h4, h5⟩
theorem Own2.cf (h : Own2 D H v E f xss) : v.cells = some [v] ∧ v.one = true := by
  obtain ⟨ws, h1, _⟩ := h; exact h1.cf
theorem Own2.len {P : Program} {t e : TypeId} {C : TC} (h : Own2 D H v E f xss) (ht : tc P t = some C) (hk : C.kd = .slice e) : ilen P t v = some (.int .i64 (xss.length : Int)) := by
  obtain ⟨ws, h1, h2, _⟩ := h
  have := h1.len (P := P) ht hk
  rw [List.length_map, h2] at this
  exact this
theorem Own2.fz (h : Own2 D H v E f xss) (hc : ∀ x, Cl1 (f x)) : Fz H v (.sim (xss.map (eS f)) false) := by
  obtain ⟨ws, h1, h2, h3, h4, h5⟩ := h
  rcases h1 with ⟨rfl, e⟩ | ⟨id, i, full, b, g1, rfl, g3, g4, g5, g6⟩
  · have : ws = [] := by simpa using e
    subst this
    have : xss = [] := List.length_eq_zero_iff.1 (by simpa using h2.symm)
    subst this
    exact .nils
  · have key : ∀ (r : Nat) (row row' : List IV), b.rows[i + r]? = some row → (xss.map (eS f))[r]? = some row' → ∃ w xs, ws[r]? = some w ∧ xss[r]? = some xs ∧ row = [w] ∧ row' = eS f xs := by
      intro r row row' hr hr'
      rw [List.getElem?_map, Option.map_eq_some_iff] at hr'
      obtain ⟨xs, hx, rfl⟩ := hr'
      have hl : r < ws.length := by rw [h2]; exact (List.getElem?_eq_some_iff.1 hx).1
      refine ⟨ws[r], xs, by simp [hl], hx, ?_, rfl⟩
      have : (ws.map fun w => [w])[r]? = b.rows[i + r]? := by
        rw [← g6, List.getElem?_take, if_pos (by simpa using hl), List.getElem?_drop]
      rw [hr] at this
      simp [hl] at this
      exact this.symm
    refine .sb (b := b) (rows := xss.map (eS f)) g3 (by simpa using g5) (by simp [h2]) (fun r row row' hr hr' => ?_) (fun r row row' c x x' hr hr' hx hx' => ?_)
    · obtain ⟨w, xs, _, _, rfl, rfl⟩ := key r row row' hr hr'; rfl
    · obtain ⟨w, xs, hw, hxs, rfl, rfl⟩ := key r row row' hr hr'
      cases c with
      | zero =>
        simp [eS] at hx hx'
        subst hx; subst hx'
        exact (h3 r w xs hw hxs).fz (cls hc xs)
      | succ c => simp at hx
theorem Own2.nil : Own2 D H .nils E f [] := ⟨[], Own.nil, rfl, by simp, by simp, by simp⟩
theorem Own2.mk2 {id : Id} {n : Int} {full : Bool} (hm : PL.mk n ([] : List α) = some xss) (hd : id.k ∈ D) (hb : H.get id = some ⟨1, List.replicate xss.length [.nils]⟩) : Own2 D H (.sb id 0 xss.length full) E f xss := by
  unfold PL.mk at hm
  split at hm
  · cases hm
    have hw : ∀ (j : Nat) (w : IV), (List.replicate n.toNat (IV.nils))[j]? = some w → w = .nils := by
      intro j w h
      rw [List.getElem?_replicate] at h
      split at h <;> simp_all
    refine ⟨List.replicate n.toNat .nils, ?_, by simp, fun j w xs hw' hx => ?_, fun j k w w' _ hw' _ id hi => ?_, fun j w hw' id hi => ?_⟩
    · rw [List.map_replicate]
      exact Own.mk hd (by simp) (by simpa using hb)
    · rw [hw j w hw']
      rw [List.getElem?_replicate] at hx
      split at hx
      · simp at hx; subst hx; exact Own.nil
      · cases hx
    · rw [hw j w hw'] at hi; exact hi.elim
    · rw [hw j w hw'] at hi; exact hi.elim
  · cases hm
end own2
theorem imk_two {P : Program} {H : Heap} {d : Nat} {t e : TypeId} {C D : TC} {k k' : IntKind} {α : Type} {n : Int} {xs : List (List α)} (ht : tc P t = some C) (hk : C.kd = .slice e) (he : tc P e = some D) (hz : D.zero = some [.nils]) (hE : D.size = 1) (hB : D.bytes ≤ 32768) (h : PL.mk n ([] : List α) = some xs) :
    imk P H d t (.int k n) (.int k' n) = some (.sb ⟨d, H.next d⟩ 0 xs.length true, .new ⟨1, List.replicate xs.length [.nils]⟩) := by
  unfold PL.mk at h
  split at h
  · rename_i hn
    cases h
    have hb : (D.bytes : Int) * n ≤ 140737488355328 := by
      have h1 : (D.bytes : Int) ≤ 32768 := by omega
      exact Int.le_trans (Int.mul_le_mul_of_nonneg_right h1 hn.1) (by omega)
    simp only [imk, imake, ht, hk, he, hz, hE]
    rw [if_pos ⟨hn.1, Int.le_refl _, hb, by omega, rfl⟩]
    simp
  · cases h

/-- One of its lists. -/
theorem Own2.at {P : Program} {t e : TypeId} {C A : TC} {D : List Nat} {H : Heap} {v : IV} {E : Nat} {α : Type} {f : α → List IV} {xss : List (List α)} {k : IntKind} {j : Int} {x : List α} (h : Own2 D H v E f xss) (hwf : H.wf) (ht : tc P t = some C) (hk : C.kd = .slice e) (he : tc P e = some A) (hE : A.size = 1) (hx : idx xss j = some x) :
    ∃ id r w, id.k ∈ D ∧ Own D H w E (x.map f) ∧ (∀ i, slId w i → i.k ∈ D ∧ ment v i = false ∧ ((id = i) = False) ∧ ∀ k g, k ∉ D → ((⟨k, g⟩ : Id) = i) = False) ∧
      (∀ H', Same D H' H → iiaddr P H' t v (.int k j) = some (.pb id r 0) ∧ ∀ o, rowOf H' (.pb id r o) = some ([w], o)) ∧
      ∀ (ds : Nat) (H0 H1 : Heap) (w' : IV) (y : List α), Same D H0 H → (∀ k, H.next k ≤ H0.next k) → Own (ds :: D) H1 w' E (y.map f) → (∀ i, ¬ slId w i → i ≠ ⟨ds, H0.next ds⟩ → H1.get i = H0.get i) → (∀ i, slId w' i → slId w i ∨ i = ⟨ds, H0.next ds⟩) →
        ∀ H2, Same (ds :: D) H2 H1 → iiaddr P H2 t v (.int k j) = some (.pb id r 0) ∧ (∀ o, rowOf H2 (.pb id r o) = some ([w], o)) ∧
          ∃ b, H2.get id = some b ∧ b.rows[r]? = some [w] ∧ b.E = 1 ∧ Own2 (ds :: D) (H2.put id ⟨b.E, b.rows.set r [w']⟩) v E f (xss.set j.toNat y) := by
  obtain ⟨ws, h1, h2, h3, h4, h5⟩ := h
  obtain ⟨i0, i1, i2⟩ := idx_facts hx
  have hl : j.toNat < ws.length := by rw [h2]; omega
  have hrow : (ws.map fun w => [w])[j.toNat]? = some [ws[j.toNat]] := by simp [hl]
  have hws : ws[j.toNat]? = some ws[j.toNat] := by simp [hl]
  have hown := h3 j.toNat _ x hws i2
  rcases h1 with ⟨rfl, e⟩ | ⟨id, i, full, b, g1, rfl, g3, g4, g5, g6⟩
  · have : ws = [] := by simpa using e
    subst this
    simp at hl
  have hbrow : b.rows[i + j.toNat]? = some [ws[j.toNat]] := by
    have := hrow
    rw [← g6, List.getElem?_take, if_pos (by simpa using hl), List.getElem?_drop] at this
    exact this
  have rd : ∀ H', H'.get id = some b → iiaddr P H' t (.sb id i (ws.map fun w => [w]).length full) (.int k j) = some (.pb id (i + j.toNat) 0) ∧ ∀ o, rowOf H' (.pb id (i + j.toNat) o) = some ([ws[j.toNat]], o) := by
    intro H' hb
    refine ⟨?_, fun o => ?_⟩
    · simp only [iiaddr, ht, hk, he, hb]
      rw [if_pos ⟨i0, by simp only [List.length_map]; omega, by rw [hE]; exact g4⟩]
    · simp only [rowOf, hb, Option.bind_some, hbrow, Option.map_some]
  have live : ∀ q, slId ws[j.toNat] q → q.k ∈ D := by
    intro q hq
    rcases hown with ⟨e, _⟩ | ⟨id2, _, _, _, q1, e, _⟩
    · rw [e] at hq; exact hq.elim
    · rw [e] at hq; cases hq; exact q1
  have nid : ∀ q, slId ws[j.toNat] q → q ≠ id := fun q hq e => h5 _ _ hws q hq (by subst e; rfl)
  refine ⟨id, i + j.toNat, ws[j.toNat], g1, hown, fun q hq => ⟨live q hq, ?_, eq_false fun e => nid q hq e.symm, fun k' g' hk' => eq_false fun e => hk' (by have := live q hq; rw [← e] at this; exact this)⟩, fun H' hs => rd H' (by rw [hs id g1]; exact g3), ?_⟩
  · simp only [ment, decide_eq_false_iff_not]; exact fun e => nid q hq e.symm
  intro ds H0 H1 w' y hs0 hn0 ho' hfr hnew H2 hs2
  have lt : ∀ q c, H.get q = some c → q ≠ ⟨ds, H0.next ds⟩ := by
    rintro q c hq rfl
    have h1 := hwf _ _ hq
    have h2 := hn0 ds
    simp only at h1
    omega
  have keep : ∀ q c, H.get q = some c → q.k ∈ D → ¬ slId ws[j.toNat] q → H2.get q = some c := by
    intro q c hq hd hn
    rw [hs2 q (List.mem_cons_of_mem _ hd), hfr q hn (lt q c hq), hs0 q hd]
    exact hq
  have hid2 : H2.get id = some b := keep id b g3 g1 (fun e => nid id e rfl)
  refine ⟨(rd H2 hid2).1, (rd H2 hid2).2, b, hid2, hbrow, g4, ?_⟩
  have hput : ∀ q, q ≠ id → (H2.put id ⟨b.E, b.rows.set (i + j.toNat) [w']⟩).get q = H2.get q := fun q hq => by simp [hq]
  have hw'id : ∀ q, slId w' q → q ≠ id := by
    rintro q hq rfl
    rcases hnew q hq with h | h
    · exact nid q h rfl
    · exact lt q b g3 h
  refine ⟨ws.set j.toNat w', .inr ⟨id, i, full, ⟨b.E, b.rows.set (i + j.toNat) [w']⟩, List.mem_cons_of_mem _ g1, by simp, by simp, g4, by simpa using g5, ?_⟩, by simp [h2], ?_, ?_, ?_⟩
  · simp only [List.length_map, List.length_set]
    apply List.ext_getElem?
    intro q
    rw [List.getElem?_take]
    by_cases hq : q < ws.length
    · rw [if_pos hq, List.getElem?_drop, List.getElem?_map]
      by_cases hjq : j.toNat = q
      · subst hjq
        rw [List.getElem?_set_self (by have := (List.getElem?_eq_some_iff.1 hbrow).1; omega), List.getElem?_set_self hl]; rfl
      · rw [List.getElem?_set_ne (by omega), List.getElem?_set_ne hjq]
        have : (ws.map fun w => [w])[q]? = ((b.rows.drop i).take (ws.map fun w => [w]).length)[q]? := by rw [g6]
        rw [List.getElem?_take, if_pos (by simpa using hq), List.getElem?_drop, List.getElem?_map] at this
        exact this.symm
    · rw [if_neg hq, List.getElem?_eq_none (by simp; omega)]
  · intro q w xs hw hxs
    by_cases hjq : j.toNat = q
    · subst hjq
      rw [List.getElem?_set_self hl] at hw
      rw [List.getElem?_set_self (by omega)] at hxs
      cases hw; cases hxs
      rcases ho' with ⟨rfl, e⟩ | ⟨id3, i3, full3, b3, q1, rfl, q3, q4⟩
      · exact .inl ⟨rfl, e⟩
      · refine .inr ⟨id3, i3, full3, b3, q1, rfl, ?_, q4⟩
        rw [hput id3 (hw'id id3 rfl), hs2 id3 q1]; exact q3
    · rw [List.getElem?_set_ne hjq] at hw hxs
      have h6 := h3 q w xs hw hxs
      rcases h6 with ⟨rfl, e⟩ | ⟨id3, i3, full3, b3, q1, rfl, q3, q4⟩
      · exact .inl ⟨rfl, e⟩
      · refine .inr ⟨id3, i3, full3, b3, List.mem_cons_of_mem _ q1, rfl, ?_, q4⟩
        rw [hput id3 (fun e => h5 q _ hw id3 rfl (by subst e; rfl)), keep id3 b3 q3 q1 (fun e => h4 j.toNat q _ _ hjq hws hw id3 e rfl)]
  · intro p q w1 w2 hpq hw1 hw2 id3 hi1 hi2
    by_cases h1 : j.toNat = p
    · subst h1
      rw [List.getElem?_set_self hl] at hw1
      cases hw1
      rw [List.getElem?_set_ne hpq] at hw2
      rcases hnew id3 hi1 with h | h
      · exact h4 j.toNat q _ _ hpq hws hw2 id3 h hi2
      · have hq : q < xss.length := by rw [← h2]; exact (List.getElem?_eq_some_iff.1 hw2).1
        rcases h3 q w2 xss[q] hw2 (by simp [hq]) with ⟨rfl, e⟩ | ⟨id4, i4, full4, b4, q1, rfl, q3, q4⟩
        · exact hi2.elim
        · cases hi2; exact lt _ _ q3 h
    · rw [List.getElem?_set_ne h1] at hw1
      by_cases h2' : j.toNat = q
      · subst h2'
        rw [List.getElem?_set_self hl] at hw2
        cases hw2
        rcases hnew id3 hi2 with h | h
        · exact h4 j.toNat p _ _ (Ne.symm hpq) hws hw1 id3 h hi1
        · have hp : p < xss.length := by rw [← h2]; exact (List.getElem?_eq_some_iff.1 hw1).1
          rcases h3 p w1 xss[p] hw1 (by simp [hp]) with ⟨rfl, e⟩ | ⟨id4, i4, full4, b4, q1, rfl, q3, q4⟩
          · exact hi1.elim
          · cases hi1; exact lt _ _ q3 h
      · rw [List.getElem?_set_ne h2'] at hw2
        exact h4 p q w1 w2 hpq hw1 hw2 id3 hi1 hi2
  · intro q w hw id3 hi hv
    have hv' : id3 = id := hv
    by_cases hjq : j.toNat = q
    · subst hjq
      rw [List.getElem?_set_self hl] at hw
      cases hw
      exact hw'id id3 hi hv'
    · rw [List.getElem?_set_ne hjq] at hw
      exact h5 q w hw id3 hi hv
theorem Own.appFL {P : Program} {m : Mo} {a : Fr} {d ds : Nat} {t tx e e' : TypeId} {C C' A : TC} {zs : List IV} {D : List Nat} {H : Heap} {s x : IV} {E : Nat} {α : Type} {f : α → List IV} {xs ys l : List α} {K : IV → Heap → Prop}
    (h : Own D H s E (xs.map f)) (hs : a.b + d = ds) (ht : tc P t = some C) (hk : C.kd = .slice e) (htx : tc P tx = some C') (hk' : C'.kd = .slice e') (he : tc P e = some A) (hz : A.zero = some zs) (hE : A.size = E) (h1 : zs.length = E) (hB : A.bytes ≤ 32768)
    (hx : srows H E x = some (ys.map f)) (hc : ∀ x, Cl1 (f x)) (ha : PL.app xs ys = some l) (hp : ∀ s0 p, m = some (s0, p) → ∀ i, slId s i → ∀ y ∈ p, ment (a.ev y) i = false)
    (k : ∀ v H', Own (ds :: D) H' v E (l.map f) → (∀ i, ¬ slId s i → i ≠ ⟨ds, H.next ds⟩ → H'.get i = H.get i) → (∀ i, slId v i → slId s i ∨ i = ⟨ds, H.next ds⟩) → K v H') : someK m a d (iapp P H ds t tx s x) H K := by
  obtain ⟨e1, e2⟩ := app_facts ha
  refine Own.appF h hs ht hk htx hk' he hz hE h1 hB hx (by simpa using e2) (ones hc ys) hp fun v H' o kh kn => k v H' ?_ kh kn
  rw [e1, List.map_append]
  exact o
theorem kh_app2 {w : IV} {D : List Nat} {ds : Nat} {H H1 : Heap} (hn : ∀ i, slId w i → i.k ∈ D) (fr : ∀ i, ¬ slId w i → i ≠ ⟨ds, H.next ds⟩ → H1.get i = H.get i) : KH (ds :: D) H1 H := fun i hi => by
  simp only [List.mem_cons, not_or] at hi
  exact fr i (fun h => hi.2 (hn i h)) (fun e => hi.1 (by rw [e]))
theorem putK_at2 {P : Program} {D : List Nat} {H0 H : Heap} {t : TypeId} {C : TC} {id : Id} {r E : Nat} {v w w' : IV} {α : Type} {f : α → List IV} {yss : List (List α)} {A B : Heap → Prop} {K : Heap → Prop}
    (hw : ∀ H', Same D H' H0 → A H' ∧ B H' ∧ ∃ b, H'.get id = some b ∧ b.rows[r]? = some [w] ∧ b.E = 1 ∧ Own2 D (H'.put id ⟨b.E, b.rows.set r [w']⟩) v E f yss) (hs : Same D H H0) (hd : id.k ∈ D)
    (ht : tc P t = some C) (hc : w'.cells = some [w'] ∧ w'.one = true) (h1 : C.size = 1)
    (k : ∀ H', Own2 D H' v E f yss → KH D H' H → K H') : putK (istore P H t (.pb id r 0) w') H K := by
  obtain ⟨_, _, b, b1, b2, b3, b4⟩ := hw H hs
  refine putK_own ht b1 b2 hc.1 (by simp [h1]) (by simp) (by simp [hc.2]) ?_
  rw [show splice [w] 0 [w'] = [w'] from rfl]
  exact k _ b4 (fun i hi => kh_put i (by
    intro e
    rw [List.mem_singleton] at e
    exact hi (e ▸ hd)))
theorem Own2.setL {D : List Nat} {H : Heap} {v : IV} {E : Nat} {α : Type} {f : α → List IV} {xss l : List (List α)} {j : Int} {y : List α} (ks : setI xss j y = some l) (o : Own2 D H v E f (xss.set j.toNat y)) : Own2 D H v E f l := by
  rw [set_facts ks]; exact o
theorem SubRow_nil : SubRow [] [] := ⟨rfl, fun c v v' h => by simp at h⟩
theorem SubRow_cons {v w : IV} {r s : List IV} (h : Sub v w) (k : SubRow r s) : SubRow (v :: r) (w :: s) := ⟨by simp [k.1], fun c x y hx hy => by
  cases c with
  | zero => simp at hx hy; subst hx; subst hy; exact h
  | succ c => exact k.2 c x y (by simpa using hx) (by simpa using hy)⟩
theorem SubRows_nil : SubRows [] [] := ⟨rfl, fun c v v' h => by simp at h⟩
theorem SubRows_cons {v w : List IV} {r s : List (List IV)} (h : SubRow v w) (k : SubRows r s) : SubRows (v :: r) (w :: s) := ⟨by simp [k.1], fun c x y hx hy => by
  cases c with
  | zero => simp at hx hy; subst hx; subst hy; exact h
  | succ c => exact k.2 c x y (by simpa using hx) (by simpa using hy)⟩
theorem U_rows {P : Program} {c : Code} {Q : Exit → Fr → Heap → Prop} {a : Fr} {H : Heap} {id : Id} {E : Nat} {rows : List (List IV)} (rows' : List (List IV)) (hb : H.get id = some ⟨E, rows⟩) (hs : SubRows rows rows') (k : W P c Q a (H.put id ⟨E, rows'⟩)) : W P c Q a H :=
  W_sees (sees_rows hb hs) k
/-- The heap's blocks of some slots. -/
def Heap.only (H : Heap) (D : List Nat) : Heap := { get := fun id => if id.k ∈ D then H.get id else none, next := H.next }
theorem only_get {H : Heap} {D : List Nat} {k g : Nat} (h : k ∈ D) : (H.only D).get ⟨k, g⟩ = H.get ⟨k, g⟩ := by simp [Heap.only, h]
theorem Same_only {H X : Heap} {D D' : List Nat} (h : ∀ d ∈ D', d ∈ D) : Same D' (H.only D) X = Same D' H X :=
  propext ⟨fun k id hi => by rw [← k id hi]; simp [Heap.only, h _ hi], fun k id hi => by rw [← k id hi]; simp [Heap.only, h _ hi]⟩
/-- A call that is given what nobody else has: that is immutable from then on. -/
theorem callD {P : Program} {f : FuncId} {args args' : List IV} {v : IV} {H : Heap} {K : IV → Heap → Prop} (D : List Nat) (h : Pure1 P f args' v) (hz : Fzs (H.only D) args args') (k : ∀ H', KH D H' H → K v H') : callM P none f args H K := by
  have hsub : ∀ id b, (H.only D).get id = some b → H.get id = some b := by
    intro id b hb
    simp only [Heap.only] at hb
    split at hb
    · exact hb
    · cases hb
  have hkeep : KH D (H.less (H.only D)) H := by
    intro id hi
    simp [Heap.less, Heap.only, hi]
  refine ⟨(h.at H).1, fun J S w us hH ha => ?_⟩
  have h1 : RelH J S (H.only D) w := frame_rel hH hsub rfl
  have hget : ∀ id b, (H.less (H.only D)).get id = some b → (H.only D).get id = none ∧ H.get id = some b := by
    intro id b hb
    simp only [Heap.less] at hb
    split at hb
    · cases hb
    · rename_i h; exact ⟨h, hb⟩
  have hS : ∀ x y, S x y → allSure J S (H.only D) w x y := fun _ _ h => .inl h
  have hz' := hz.sound h1
  have ha' : VRs J (allSure J S (H.only D) w) args' us := ⟨by rw [← hz'.1]; exact ha.1, fun q v u hv hu => by
    have hq : q < args.length := by rw [hz'.1]; exact (List.getElem?_eq_some_iff.1 hv).1
    have := hz'.2 q args[q] v u (by simp [hq]) hv (ha.2 q args[q] u (by simp [hq]) hu)
    exact this.mono (fun _ _ h => by cases h) (fun _ _ h => h)⟩
  have hH2 : RelH J (allSure J S (H.only D) w) (H.less (H.only D)) w := by
    refine ⟨fun id b hb => ?_, fun id id' b b' L L' hb hb' => hH.inj id id' b b' L L' (hget _ _ hb).2 (hget _ _ hb').2, ?_, hH.next⟩
    · obtain ⟨L, hL, hat⟩ := hH.blk id b (hget _ _ hb).2
      exact ⟨L, hL, hat.mono (fun _ _ h => h) hS⟩
    · rintro x y (h | ⟨h, id1, b1, L1, hb1, hL1, hr1⟩)
      · refine ⟨(hH.sure x y h).1, ?_⟩
        rintro ⟨id, b, L, hb, hL, hr⟩
        exact (hH.sure x y h).2 ⟨id, b, L, (hget _ _ hb).2, hL, hr⟩
      · refine ⟨h, ?_⟩
        rintro ⟨id, b, L, hb, hL, hr⟩
        have := hH.inj id id1 b b1 L L1 (hget _ _ hb).2 (hsub _ _ hb1) hL hL1 (hr.trans hr1.symm)
        subst this
        rw [(hget _ _ hb).1] at hb1
        cases hb1
  have hE : Ext J S H w J (allSure J S (H.only D) w) (H.less (H.only D)) w := by
    refine ⟨fun _ _ h => h, hS, ?_, ?_, fun _ _ _ => rfl, Nat.le_refl _, rfl, rfl, rfl, fun _ => Nat.le_refl _⟩
    · rintro x y (h | ⟨_, id1, b1, L1, hb1, hL1, hr1⟩)
      · exact .inl h
      · exact .inr (.inl ⟨id1, b1, L1, hsub _ _ hb1, hL1, hr1⟩)
    · rintro b ⟨id, B, L, hb, hL, hr⟩
      exact .inl ⟨id, B, L, (hget _ _ hb).2, hL, hr⟩
  refine ((h.at (H.less (H.only D))).2 J _ w us hH2 ha').mono ?_
  rintro e w' ⟨J', S', u, v', H', he, ⟨hv, hH'⟩, hvr, hR, hE'⟩
  subst hv; subst hH'
  exact ⟨J', S', u, _, _, he, k _ hkeep, hvr, hR, hE.trans hE'⟩
theorem index_v2 {P : Program} {t e : TypeId} {C A : TC} {k : IntKind} {j : Int} {c : Bool} {u0 u1 : IV} (hx : ix2 j = some c) (ht : tc P t = some C) (hk : C.kd = .array 2 e) (he : tc P e = some A) (h1 : A.size = 1) (ha : A.agg = false) :
    iindex P t (.agg [u0, u1]) (.int k j) = some ((⟨u0, u1⟩ : A2 IV).at c) := by
  cases c with
  | true => have := ix2_t hx rfl; subst this; simp [iindex, ht, hk, he, h1, ha, ipart, A2.at]
  | false => have := ix2_f hx rfl; subst this; simp [iindex, ht, hk, he, h1, ha, ipart, A2.at]
theorem at_sim {α : Type} {f : α → List IV} {a b : List α} {c fl : Bool} : (⟨.sim (a.map f) fl, .sim (b.map f) fl⟩ : A2 IV).at c = .sim (((⟨a, b⟩ : A2 (List α)).at c).map f) fl := by cases c <;> rfl
theorem at_int {k : IntKind} {a b : Int} {c : Bool} : (⟨.int k a, .int k b⟩ : A2 IV).at c = .int k ((⟨a, b⟩ : A2 Int).at c) := by cases c <;> rfl
theorem at_str {a b : ByteArray} {c : Bool} : (⟨.str a, .str b⟩ : A2 IV).at c = .str ((⟨a, b⟩ : A2 ByteArray).at c) := by cases c <;> rfl
theorem at_bool {a b c : Bool} : (⟨.bool a, .bool b⟩ : A2 IV).at c = .bool ((⟨a, b⟩ : A2 Bool).at c) := by cases c <;> rfl
theorem nextLe (H : Heap) : ∀ k, H.next k ≤ H.next k := fun _ => Nat.le_refl _
theorem nextLe_new {H0 H : Heap} {j : Nat} {b : Blk} (h : ∀ k, H0.next k ≤ H.next k) : ∀ k, H0.next k ≤ (H.new j b).next k := fun k => by
  have := h k
  simp only [heap_new_next]
  split
  · rename_i e; subst e; omega
  · exact this
end Go.Proofs.Ytodafoajkajnkaa.IL
