/- The pure layer, part 1: blocks that are named anew; calls that write. Nothing here speaks of a given program. -/
import Derived.Test.YtodafoajkajnkaaPL0
set_option linter.unusedVariables false
set_option linter.unusedSimpArgs false
namespace Go.Proofs.Ytodafoajkajnkaa.IL
open Go Go.RowKit PL

/-- The same value, but that a block may have another name. -/
def RV (id id' : Id) (v v' : IV) : Prop := v = v' ∨ (∃ i n f, v = .sb id i n f ∧ v' = .sb id' i n f) ∨ ∃ i o, v = .pb id i o ∧ v' = .pb id' i o
theorem RV.rel {id id' : Id} {J J' : Inj} {S : Sure} {v v' : IV} {u : Value} (h : RV id id' v v') (hJ : ∀ j L, J j = some L → J' j = some L) (hr : ∀ L, J id = some L → J' id' = some L) (hv : VR J S v u) : VR J' S v' u := by
  rcases h with rfl | ⟨i, n, f, rfl, rfl⟩ | ⟨i, o, rfl, rfl⟩
  · exact hv.mono hJ fun _ _ h => h
  · cases hv with
    | sb h hc hz hf => exact .sb (hr _ h) hc hz hf
  · cases hv with
    | pb h => exact .pb (hr _ h)
def RB (id id' : Id) (c0 c : Blk) : Prop := c.E = c0.E ∧ c.rows.length = c0.rows.length ∧
  ∀ (i : Nat) (r0 r : List IV), c0.rows[i]? = some r0 → c.rows[i]? = some r → r.length = r0.length ∧ ∀ (o : Nat) (v0 v : IV), r0[o]? = some v0 → r[o]? = some v → RV id id' v0 v
theorem RB.refl {id id' : Id} {c : Blk} : RB id id' c c := ⟨rfl, rfl, fun i r0 r h h' => by rw [h] at h'; cases h'; exact ⟨rfl, fun o v0 v h h' => by rw [h] at h'; cases h'; exact .inl rfl⟩⟩

/-- A block has another name from here on. -/
theorem W_ren {P : Program} {code : Code} {Q : Exit → Fr → Heap → Prop} {a a' : Fr} {H H' : Heap} {id : Id} {b0 : Blk} (k : Nat) (hb : H.get id = some b0) (hn : a'.n = a.n) (ha : ∀ t, RV id ⟨k, H.next k⟩ (a.get t) (a'.get t)) (hnx : ∀ j, H'.next j = if j = k then H.next k + 1 else H.next j)
    (hold : H'.get id = none) (hget : ∀ j c, H'.get j = some c → ∃ j0 c0, H.get j0 = some c0 ∧ (j = j0 ∨ j0 = id ∧ j = ⟨k, H.next k⟩) ∧ RB id ⟨k, H.next k⟩ c0 c)
    (h : W P code Q a' H') (hlp : ∀ j, H'.loop j = H.loop j := by intro _; rfl) : W P code Q a H := by
  intro B ro J S ra w hF hH hO
  obtain ⟨L0, hL0, hat0⟩ := hH.blk id b0 hb
  have hnew : J ⟨k, H.next k⟩ = none := by
    cases h : J ⟨k, H.next k⟩ with
    | none => rfl
    | some L => exact absurd (hH.next _ _ h) (by simp)
  let J' : Inj := fun j => if j = ⟨k, H.next k⟩ then some L0 else J j
  have hJ : ∀ j L, J j = some L → J' j = some L := by
    intro j L hj
    have : j ≠ ⟨k, H.next k⟩ := by rintro rfl; rw [hnew] at hj; cases hj
    simp only [J', if_neg this]; exact hj
  have hr : ∀ L, J id = some L → J' ⟨k, H.next k⟩ = some L := by
    intro L hL; rw [hL0] at hL; cases hL; simp [J']
  have hloc : ∀ j c L, H'.get j = some c → J' j = some L → ∃ j0 c0, H.get j0 = some c0 ∧ J j0 = some L ∧ (j = j0 ∨ j0 = id ∧ j = ⟨k, H.next k⟩) ∧ RB id ⟨k, H.next k⟩ c0 c := by
    intro j c L hj hL
    obtain ⟨j0, c0, h0, hor, hrb⟩ := hget j c hj
    refine ⟨j0, c0, h0, ?_, hor, hrb⟩
    rcases hor with rfl | ⟨rfl, rfl⟩
    · have : j ≠ ⟨k, H.next k⟩ := by
        rintro rfl
        obtain ⟨M, hM, _⟩ := hH.blk _ _ h0
        rw [hnew] at hM; cases hM
      simpa only [J', if_neg this] using hL
    · simp [J'] at hL; rw [← hL]; exact hL0
  have hlh : ∀ j L, H'.has j → J' j = some L → ∃ j0, H.has j0 ∧ J j0 = some L ∧ (j = j0 ∨ j0 = id ∧ j = ⟨k, H.next k⟩) := by
    rintro j L (⟨c, hj⟩ | ⟨s, hs⟩) hL
    · obtain ⟨j0, c0, h0, hL', hor, _⟩ := hloc j c L hj hL
      exact ⟨j0, .inl ⟨c0, h0⟩, hL', hor⟩
    · rw [hlp] at hs
      obtain ⟨M, hM, _⟩ := hH.lps j s hs
      have := hJ _ _ hM
      rw [hL] at this; cases this
      exact ⟨j, .inr ⟨s, hs⟩, hM, .inl rfl⟩
  have hold' : ¬ H'.has id := by
    rintro (⟨c, hj⟩ | ⟨s, hs⟩)
    · rw [hold] at hj; cases hj
    · rw [hlp] at hs
      exact hH.apart hb hL0 hs hL0 rfl
  have f' : RelF J' S a' ra := ⟨by rw [hn]; exact hF.size, fun t => (ha t).rel hJ hr (hF.val t)⟩
  have h' : RelH J' S H' w := by
    refine ⟨fun j c hj => ?_, fun j1 j2 L1 L2 h1 h2 hl1 hl2 hrb => ?_, fun x v hs => ⟨(hH.sure x v hs).1, ?_⟩, fun j L hj => ?_, fun j s hs => ?_⟩
    · obtain ⟨j0, c0, h0, hor, q1, q2, q3⟩ := hget j c hj
      obtain ⟨L, hL, hat⟩ := hH.blk j0 c0 h0
      have hJL : J' j = some L := by
        rcases hor with rfl | ⟨rfl, rfl⟩
        · exact hJ _ _ hL
        · exact hr _ hL
      obtain ⟨cs, t, g1, g2, g3⟩ := hat.cell
      have row0 : ∀ (i : Nat) (r : List IV), c.rows[i]? = some r → ∃ r0, c0.rows[i]? = some r0 := fun i r hi => by
        have : i < c0.rows.length := by rw [← q2]; exact (List.getElem?_eq_some_iff.1 hi).1
        exact ⟨c0.rows[i], by simp [this]⟩
      refine ⟨L, hJL, ⟨by rw [q1]; exact hat.E, ⟨cs, t, g1, g2, fun i r o v hi ho => ?_⟩, fun i r hi => ?_, by rw [q1, q2]; exact hat.fit⟩⟩
      · obtain ⟨r0, hr0⟩ := row0 i r hi
        obtain ⟨e1, e2⟩ := q3 i r0 r hr0 hi
        have ho' : o < r0.length := by rw [← e1]; exact (List.getElem?_eq_some_iff.1 ho).1
        obtain ⟨u, hu, hv⟩ := g3 i r0 o r0[o] hr0 (by simp [ho'])
        exact ⟨u, by rw [q1]; exact hu, (e2 o _ _ (by simp [ho']) ho).rel hJ hr hv⟩
      · obtain ⟨r0, hr0⟩ := row0 i r hi
        rw [(q3 i r0 r hr0 hi).1, q1]
        exact hat.row i r0 hr0
    · obtain ⟨i1, a1, b1, o1⟩ := hlh j1 L1 h1 hl1
      obtain ⟨i2, a2, b2, o2⟩ := hlh j2 L2 h2 hl2
      have := hH.inj i1 i2 L1 L2 a1 a2 b1 b2 hrb
      subst this
      rcases o1 with rfl | ⟨rfl, rfl⟩ <;> rcases o2 with rfl | ⟨h3, rfl⟩
      · rfl
      · subst h3; exact absurd h1 hold'
      · exact absurd h2 hold'
      · rfl
    · rintro ⟨j, L, hj, hL, hk⟩
      obtain ⟨j0, h0, hL', _⟩ := hlh j L hj hL
      exact (hH.sure x v hs).2 ⟨j0, L, h0, hL', hk⟩
    · rw [hnx]
      by_cases hj' : j = ⟨k, H.next k⟩
      · subst hj'; simp
      · simp only [J', if_neg hj'] at hj
        have := hH.next j L hj
        split
        · rename_i e; rw [e] at this; omega
        · exact this
    · rw [hlp] at hs
      obtain ⟨L, hL, hat⟩ := hH.lps j s hs
      exact ⟨L, hJ _ _ hL, hat.mono hJ (fun _ _ h => h)⟩
  have e : Ext J S H w J' S H' w := by
    have hup : ∀ j, H.next j ≤ H'.next j := by
      intro j
      rw [hnx]
      split
      · rename_i e; rw [e]; omega
      · exact Nat.le_refl _
    refine ⟨hJ, fun _ _ h => h, fun _ _ h => .inl h, ?_, fun _ _ _ => rfl, Nat.le_refl _, rfl, rfl, rfl, hup, fun _ r h => ⟨r, h⟩⟩
    rintro b ⟨j, L, hj, hL, hk⟩
    obtain ⟨j0, h0, hL', _⟩ := hlh j L hj hL
    exact .inl ⟨j0, L, h0, hL', hk⟩
  exact wpIn_mono (h B ro J' S ra w f' h' hO) fun _ _ _ ⟨J2, S2, a2, H2, q, r1, r2, r3, r4⟩ => ⟨J2, S2, a2, H2, q, r1, r2, e.trans r3, r4⟩

theorem callH {P : Program} {f : FuncId} {args : List IV} {H : Heap} {K K' : IV → Heap → Prop} (h : CallW P f args H K') (k : ∀ v H', K' v H' → K v H') : callM P none f args H K := h.mono k

/-- The heap where a block has another name. -/
def Heap.ren (H : Heap) (id : Id) (k : Nat) (b : Blk) : Heap := (H.del id).new k b
theorem ren_facts {H : Heap} {id : Id} {k : Nat} {b : Blk} (hb : H.get id = some b) (hk : id ≠ ⟨k, H.next k⟩) : (H.ren id k b).get id = none ∧ (∀ j, (H.ren id k b).next j = if j = k then H.next k + 1 else H.next j) ∧
    ∀ j c, (H.ren id k b).get j = some c → ∃ c0, (j = ⟨k, H.next k⟩ ∧ c = b ∧ c0 = b ∧ H.get id = some c0) ∨ (j ≠ ⟨k, H.next k⟩ ∧ j ≠ id ∧ c = c0 ∧ H.get j = some c0) := by
  refine ⟨by simp [Heap.ren, hk], fun j => by simp [Heap.ren], fun j c hj => ?_⟩
  simp only [Heap.ren, heap_new, heap_del_next, heap_del] at hj
  split at hj
  · rename_i e; cases hj; exact ⟨b, .inl ⟨e, rfl, rfl, hb⟩⟩
  · rename_i e
    split at hj
    · cases hj
    · rename_i e2; exact ⟨c, .inr ⟨e, e2, rfl, hj⟩⟩
theorem live_ne {H : Heap} {id : Id} {b : Blk} {k : Nat} (hw : H.wf) (hb : H.get id = some b) : id ≠ ⟨k, H.next k⟩ := by
  rintro rfl
  exact absurd (hw _ _ hb) (by simp)

/-- A list of a slot is named anew. -/
theorem U_renS {P : Program} {code : Code} {Q : Exit → Fr → Heap → Prop} {a : Fr} {H : Heap} {D : List Nat} {v : IV} {E : Nat} {rows : List (List IV)} (t k : Nat) (o : Own D H v E rows) (ht : a.get t = v)
    (h : ∀ v' H', Own [k] H' v' E rows → KH (k :: D) H' H → W P code Q (a.put t v') H') : W P code Q a H := by
  refine W_wf fun hw => ?_
  rcases o with ⟨rfl, rfl⟩ | ⟨id, i, full, b, h1, rfl, h3, h4, h5, h6⟩
  · have e : a.put t .nils = a := by
      cases a; simp only [Fr.put, Fr.mk.injEq, true_and]; funext s; split
      · rename_i e; subst e; exact ht.symm
      · rfl
    have := h .nils H Own.nil (fun _ _ => ⟨rfl, rfl⟩)
    rw [e] at this
    exact this
  · have hne := live_ne (k := k) hw h3
    obtain ⟨f1, f2, f3⟩ := ren_facts h3 hne
    refine W_ren (a' := a.put t (.sb ⟨k, H.next k⟩ i rows.length full)) (H' := H.ren id k b) k h3 rfl (fun s => ?_) f2 f1 (fun j c hj => ?_) ?_
    · simp only [put_get]
      split
      · rename_i e; subst e; rw [ht]; exact .inr (.inl ⟨_, _, _, rfl, rfl⟩)
      · exact .inl rfl
    · obtain ⟨c0, ⟨rfl, rfl, rfl, q⟩ | ⟨e1, e2, rfl, q⟩⟩ := f3 j c hj
      · exact ⟨id, c0, q, .inr ⟨rfl, rfl⟩, .refl⟩
      · exact ⟨j, c, q, .inl rfl, .refl⟩
    · refine h _ _ (.inr ⟨⟨k, H.next k⟩, i, full, b, by simp, rfl, by simp [Heap.ren], h4, h5, h6⟩) (fun j hj => ?_)
      simp only [List.mem_cons, not_or] at hj
      have e1 : j ≠ ⟨k, H.next k⟩ := by rintro rfl; exact hj.1 rfl
      have e2 : j ≠ id := by rintro rfl; exact hj.2 h1
      exact ⟨by simp [Heap.ren, e1, e2], rfl⟩

/-- A list in a cell of a block of one row is named anew. -/
theorem U_renC {P : Program} {code : Code} {Q : Exit → Fr → Heap → Prop} {a : Fr} {H : Heap} {D : List Nat} {v : IV} {E n : Nat} {rows : List (List IV)} {kb gb : Nat} {row : List IV} (c k : Nat) (o : Own D H v E rows) (hb : H.get ⟨kb, gb⟩ = some ⟨n, [row]⟩) (hc : row[c]? = some v) (hkb : kb ∉ D) (hkk : kb ≠ k)
    (h : ∀ v' H', Own [k] H' v' E rows → H'.get ⟨kb, gb⟩ = some ⟨n, [row.set c v']⟩ → KH (kb :: k :: D) H' H → W P code Q a H') : W P code Q a H := by
  refine W_wf fun hw => ?_
  have hset : row.set c v = row := by
    apply List.ext_getElem?
    intro q
    by_cases hq : c = q
    · subst hq; rw [List.getElem?_set_self (List.getElem?_eq_some_iff.1 hc).1, hc]
    · rw [List.getElem?_set_ne hq]
  rcases o with ⟨rfl, rfl⟩ | ⟨id, i, full, b, h1, rfl, h3, h4, h5, h6⟩
  · exact h .nils H Own.nil (by rw [hset]; exact hb) (fun _ _ => ⟨rfl, rfl⟩)
  · have hne := live_ne (k := k) hw h3
    obtain ⟨f1, f2, f3⟩ := ren_facts h3 hne
    have hid : id ≠ ⟨kb, gb⟩ := by rintro rfl; exact hkb h1
    have hnw : (⟨kb, gb⟩ : Id) ≠ ⟨k, H.next k⟩ := by simp [hkk]
    let v' : IV := .sb ⟨k, H.next k⟩ i rows.length full
    refine W_ren (a' := a) (H' := (H.ren id k b).put ⟨kb, gb⟩ ⟨n, [row.set c v']⟩) k h3 rfl (fun s => .inl rfl) (fun j => by simpa using f2 j) (by simp [hid, f1]) (fun j e hj => ?_) ?_
    · simp only [heap_put] at hj
      split at hj
      · rename_i ej
        cases hj
        refine ⟨⟨kb, gb⟩, _, hb, .inl ej, rfl, rfl, fun i0 r0 r hr0 hr => ?_⟩
        cases i0 with
        | zero =>
          simp at hr0 hr; subst hr0; subst hr
          refine ⟨by simp, fun o v0 w h0 hw' => ?_⟩
          by_cases ho : c = o
          · subst ho
            rw [List.getElem?_set_self (List.getElem?_eq_some_iff.1 hc).1] at hw'
            rw [hc] at h0
            cases h0; cases hw'
            exact .inr (.inl ⟨_, _, _, rfl, rfl⟩)
          · rw [List.getElem?_set_ne ho, h0] at hw'
            cases hw'; exact .inl rfl
        | succ i0 => simp at hr0
      · obtain ⟨c0, ⟨rfl, rfl, rfl, q⟩ | ⟨e1, e2, rfl, q⟩⟩ := f3 j e hj
        · exact ⟨id, c0, q, .inr ⟨rfl, rfl⟩, .refl⟩
        · exact ⟨j, e, q, .inl rfl, .refl⟩
    · refine h v' _ (.inr ⟨⟨k, H.next k⟩, i, full, b, by simp, rfl, ?_, h4, h5, h6⟩) (by simp) (fun j hj => ?_)
      · simp [Heap.ren, Ne.symm hnw]
      · simp only [List.mem_cons, not_or] at hj
        have e0 : j ≠ ⟨kb, gb⟩ := by rintro rfl; exact hj.1 rfl
        have e1 : j ≠ ⟨k, H.next k⟩ := by rintro rfl; exact hj.2.1 rfl
        have e2 : j ≠ id := by rintro rfl; exact hj.2.2 h1
        exact ⟨by simp [Heap.ren, e0, e1, e2], rfl⟩

/-- A block of one row that a slot means is named anew. -/
theorem U_renB {P : Program} {code : Code} {Q : Exit → Fr → Heap → Prop} {a : Fr} {H : Heap} {n : Nat} {kb gb : Nat} {row : List IV} {i o : Nat} (t k : Nat) (hb : H.get ⟨kb, gb⟩ = some ⟨n, [row]⟩) (ht : a.get t = .pb ⟨kb, gb⟩ i o)
    (h : ∀ g H', H'.get ⟨k, g⟩ = some ⟨n, [row]⟩ → KH [k, kb] H' H → W P code Q (a.put t (.pb ⟨k, g⟩ i o)) H') : W P code Q a H := by
  refine W_wf fun hw => ?_
  have hne := live_ne (k := k) hw hb
  obtain ⟨f1, f2, f3⟩ := ren_facts hb hne
  refine W_ren (a' := a.put t (.pb ⟨k, H.next k⟩ i o)) (H' := H.ren ⟨kb, gb⟩ k ⟨n, [row]⟩) k hb rfl (fun s => ?_) f2 f1 (fun j c hj => ?_) ?_
  · simp only [put_get]
    split
    · rename_i e; subst e; rw [ht]; exact .inr (.inr ⟨_, _, rfl, rfl⟩)
    · exact .inl rfl
  · obtain ⟨c0, ⟨rfl, rfl, rfl, q⟩ | ⟨e1, e2, rfl, q⟩⟩ := f3 j c hj
    · exact ⟨_, _, q, .inr ⟨rfl, rfl⟩, .refl⟩
    · exact ⟨j, c, q, .inl rfl, .refl⟩
  · refine h _ _ (by simp [Heap.ren]) (fun j hj => ?_)
    simp only [List.mem_cons, List.not_mem_nil, or_false, not_or] at hj
    have e1 : j ≠ ⟨k, H.next k⟩ := by rintro rfl; exact hj.1 rfl
    have e2 : j ≠ ⟨kb, gb⟩ := by rintro rfl; exact hj.2 rfl
    exact ⟨by simp [Heap.ren, e1, e2], rfl⟩
/-- A slot's value is seen as another one. -/
theorem U_sub {P : Program} {code : Code} {Q : Exit → Fr → Heap → Prop} {a : Fr} {H : Heap} {v v' : IV} (t : Nat) (ht : a.get t = v) (hs : Sub v v') (h : W P code Q (a.put t v') H) : W P code Q a H := by
  intro B ro J S ra w hF hH hO
  refine h B ro J S ra w ⟨by simpa using hF.size, fun s => ?_⟩ hH hO
  simp only [put_get]
  split
  · rename_i e; subst e; exact hs _ _ _ (ht ▸ hF.val s)
  · exact hF.val s
theorem sub_sime : Sub .sime (.sim [] false) := fun J S u h => by
  cases h
  exact .sim (rows := []) (E := 0) (f := fun _ _ => .nilFunc) (fun _ _ h => by cases h) (fun _ _ _ _ h => by cases h) (fun _ _ _ _ h => by cases h) (Nat.zero_le _) (fun h => by cases h)
/-- A list of nothing is nil, or is not. -/
theorem U_nil {P : Program} {code : Code} {Q : Exit → Fr → Heap → Prop} {a : Fr} {H : Heap} {full : Bool} (t : Nat) (ht : a.get t = .sim [] full) (h1 : W P code Q (a.put t .nils) H) (h2 : W P code Q (a.put t .sime) H) : W P code Q a H := by
  intro B ro J S ra w hF hH hO
  have hv := hF.val t
  rw [ht] at hv
  have key : ∀ v, VR J S v (ra.tmps.getD t undef) → RelF J S (a.put t v) ra := fun v hv => ⟨by simpa using hF.size, fun s => by
    simp only [put_get]
    split
    · rename_i e; subst e; exact hv
    · exact hF.val s⟩
  generalize hu : ra.tmps.getD t undef = u at hv key
  cases hv with
  | sim => exact h2 B ro J S ra w (key _ .sime) hH hO
  | simnil => exact h1 B ro J S ra w (key _ .nils) hH hO
theorem nil_nil {P : Program} {t e : TypeId} {C : TC} {c : Bool} (ht : tc P t = some C) (hk : C.kd = .slice e) : ibin P .eql t .nils .nils c = some (.bool true) := by simp [ibin, ieqO, ht, hk]
theorem nil_sime {P : Program} {t e : TypeId} {C : TC} {c : Bool} (ht : tc P t = some C) (hk : C.kd = .slice e) : ibin P .eql t .sime .nils c = some (.bool false) := by simp [ibin, ieqO, ht, hk]
theorem nil_cons {P : Program} {t e : TypeId} {C : TC} {c fl : Bool} {α : Type} {f : α → List IV} {s : List α} (ht : tc P t = some C) (hk : C.kd = .slice e) (hs : s ≠ []) : ibin P .eql t (.sim (s.map f) fl) .nils c = some (.bool false) := by
  cases s with
  | nil => exact absurd rfl hs
  | cons y ys => simp [ibin, ieqO, ht, hk]
end Go.Proofs.Ytodafoajkajnkaa.IL
