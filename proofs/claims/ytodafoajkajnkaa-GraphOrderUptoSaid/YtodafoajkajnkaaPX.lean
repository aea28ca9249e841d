/- The pure layer: what the printed walks use. Nothing here speaks of a given program, but for its types. -/
import Derived.Test.YtodafoajkajnkaaPS
import Derived.Test.YtodafoajkajnkaaPE
import Derived.Test.YtodafoajkajnkaaPL1
set_option linter.unusedVariables false
set_option linter.unusedSimpArgs false
set_option linter.defProp false
namespace Go.Proofs.Ytodafoajkajnkaa.IL
open Go Go.RowKit PL

theorem row_map {α : Type} {f : α → List IV} {xs : List α} {j : Int} {x : α} (h : idx xs j = some x) : (xs.map f)[j.toNat]? = some (f x) := by
  rw [List.getElem?_map, (idx_facts h).2.2, Option.map_some]
theorem srows_sim {H : Heap} {E : Nat} {α : Type} {f : α → List IV} {xs : List α} {b : Bool} (h : ∀ x, (f x).length = E) : srows H E (.sim (xs.map f) b) = some (xs.map f) := by
  unfold srows
  rw [if_pos]
  intro r hr
  obtain ⟨x, _, rfl⟩ := List.mem_map.1 hr
  exact h x
theorem srows_sb {H : Heap} {E : Nat} {id : Id} {i n : Nat} {f : Bool} : srows H E (.sb id i n f) = match H.get id with
    | some b => if b.E = E ∧ i + n ≤ b.rows.length then some ((b.rows.drop i).take n) else none
    | none => none := rfl
theorem app_facts {α : Type} {xs ys l : List α} (h : PL.app xs ys = some l) : l = xs ++ ys ∧ xs.length + ys.length ≤ 4294967296 := by
  unfold PL.app at h
  split at h
  · rename_i c; exact ⟨(Option.some.inj h).symm, c⟩
  · cases h
theorem Own.appL {P : Program} {a : Fr} {d ds : Nat} {t tx e e' : TypeId} {C C' A : TC} {zs : List IV} {D : List Nat} {H : Heap} {s x : IV} {E : Nat} {α : Type} {f : α → List IV} {xs ys l : List α} {K : IV → Heap → Prop}
    (h : Own D H s E (xs.map f)) (hs : a.b + d = ds) (hd : ds ∈ D) (ht : tc P t = some C) (hk : C.kd = .slice e) (htx : tc P tx = some C') (hk' : C'.kd = .slice e') (he : tc P e = some A) (hz : A.zero = some zs) (hE : A.size = E) (h1 : zs.length = E) (hB : A.bytes ≤ 32768)
    (hx : srows H E x = some (ys.map f)) (hc : ∀ x, Cl1 (f x)) (ha : PL.app xs ys = some l)
    (k : ∀ v H', Own D H' v E (l.map f) → KH D H' H → K v H') : someK none a d (iapp P H ds t tx s x) H K := by
  obtain ⟨e1, e2⟩ := app_facts ha
  refine Own.app h hs hd ht hk htx hk' he hz hE h1 hB hx (by simpa using e2) (ones hc ys) fun v H' o kh => k v H' ?_ kh
  rw [e1, List.map_append]
  exact o
theorem set_facts {α : Type} {xs l : List α} {j : Int} {y : α} (h : setI xs j y = some l) : l = xs.set j.toNat y := by
  unfold setI at h
  split at h
  · exact (Option.some.inj h).symm
  · cases h
theorem Own.setL {D : List Nat} {H : Heap} {v : IV} {E : Nat} {α : Type} {f : α → List IV} {xs l : List α} {j : Int} {y : α} {row : List IV} (ks : setI xs j y = some l) (he : row = f y) (o : Own D H v E ((xs.map f).set j.toNat row)) : Own D H v E (l.map f) := by
  rw [set_facts ks, List.map_set, ← he]
  exact o
theorem putK_at {P : Program} {D : List Nat} {H0 H : Heap} {t : TypeId} {C : TC} {id : Id} {r o E j : Nat} {x vv : IV} {row cs : List IV} {rows : List (List IV)} {A B : Heap → Prop} {K : Heap → Prop}
    (hw : ∀ H', Same D H' H0 → A H' ∧ B H' ∧ ∃ b, H'.get id = some b ∧ b.rows[r]? = some row ∧ b.E = E ∧ ∀ row', Own D (H'.put id ⟨b.E, b.rows.set r row'⟩) vv E (rows.set j row')) (hs : Same D H H0) (hd : id.k ∈ D)
    (ht : tc P t = some C) (hc : x.cells = some cs) (h1 : cs.length = C.size) (h2 : o + cs.length ≤ row.length) (h3 : ∀ x ∈ cs, x.one = true)
    (k : ∀ H', Own D H' vv E (rows.set j (splice row o cs)) → KH D H' H → K H') : putK (istore P H t (.pb id r o) x) H K := by
  obtain ⟨_, _, b, b1, b2, b3, b4⟩ := hw H hs
  exact putK_own ht b1 b2 hc h1 h2 h3 (k _ (b4 _) (fun i hi => kh_put i (by
    intro e
    rw [List.mem_singleton] at e
    exact hi (e ▸ hd))))
theorem outE_n {σ ρ τ : Type} {s : σ} {k : σ → Option τ} {q : ρ → Option τ} {b : τ} (h : outE (.n s) k q = some b) : k s = some b := h
theorem outE_r {σ ρ τ : Type} {v : ρ} {k : σ → Option τ} {q : ρ → Option τ} {b : τ} (h : outE (.r v) k q = some b) : q v = some b := h
theorem fl0 : ∀ x ∈ ([] : List IV), flatv x := by simp
theorem flA {v : IV} {l : List IV} (h : flatv v) (k : ∀ x ∈ l, flatv x) : ∀ x ∈ v :: l, flatv x := by
  intro x hx
  rcases List.mem_cons.1 hx with rfl | hx
  · exact h
  · exact k x hx
theorem sli_facts {α : Type} {xs l : List α} {lo hi : Int} (h : sli xs lo hi = some l) : 0 ≤ lo ∧ lo ≤ hi ∧ hi ≤ (xs.length : Int) ∧ l = (xs.drop lo.toNat).take (hi.toNat - lo.toNat) := by
  unfold sli at h
  split at h
  · rename_i c; exact ⟨c.1, c.2.1, c.2.2, (Option.some.inj h).symm⟩
  · cases h
theorem bsli_facts {s r : ByteArray} {lo hi : Int} (h : bsli s lo hi = some r) : 0 ≤ lo ∧ lo ≤ hi ∧ hi ≤ (s.size : Int) ∧ r = s.extract lo.toNat hi.toNat := by
  unfold bsli at h
  split at h
  · rename_i c; exact ⟨c.1, c.2.1, c.2.2, (Option.some.inj h).symm⟩
  · cases h
theorem bndB {lo hi : Int} {n : Nat} (h0 : 0 ≤ lo) (h1 : lo ≤ hi) (h2 : hi ≤ (n : Int)) : ibnd (some (.int .i64 lo)) (some (.int .i64 hi)) none n = some (lo.toNat, hi.toNat, none) := by
  simp only [ibnd, bnd]
  rw [if_pos ⟨by omega, h2⟩]
  simp only
  rw [if_pos ⟨h0, by omega⟩]
theorem bnd0 {hi : Int} {n : Nat} (h1 : 0 ≤ hi) (h2 : hi ≤ (n : Int)) : ibnd none (some (.int .i64 hi)) none n = some ((0 : Int).toNat, hi.toNat, none) := by
  simp only [ibnd, bnd]
  rw [if_pos ⟨h1, h2⟩]
  rfl
theorem bndT {lo : Int} {n : Nat} (h0 : 0 ≤ lo) (h1 : lo ≤ (n : Int)) : ibnd (some (.int .i64 lo)) none none n = some (lo.toNat, ((n : Int)).toNat, none) := by
  simp only [ibnd, bnd]
  rw [if_pos ⟨h0, h1⟩]
  rfl
theorem bndA {n : Nat} : ibnd none none none n = some ((0 : Int).toNat, ((n : Int)).toNat, none) := rfl
section slices
variable {α : Type} {xs l : List α} {lo hi : Int} {s r : ByteArray}
theorem bnds (ks : sli xs lo hi = some l) : ibnd (some (.int .i64 lo)) (some (.int .i64 hi)) none xs.length = some (lo.toNat, hi.toNat, none) := bndB (sli_facts ks).1 (sli_facts ks).2.1 (sli_facts ks).2.2.1
theorem bnds0 (ks : sli xs 0 hi = some l) : ibnd none (some (.int .i64 hi)) none xs.length = some ((0 : Int).toNat, hi.toNat, none) := bnd0 (sli_facts ks).2.1 (sli_facts ks).2.2.1
theorem bndsE (ks : sli xs lo (xs.length : Int) = some l) : ibnd (some (.int .i64 lo)) none none xs.length = some (lo.toNat, ((xs.length : Int)).toNat, none) := bndT (sli_facts ks).1 (sli_facts ks).2.1
theorem bnds0E (ks : sli xs 0 (xs.length : Int) = some l) : ibnd none none none xs.length = some ((0 : Int).toNat, ((xs.length : Int)).toNat, none) := bndA
theorem Own.sliL {P : Program} {t e : TypeId} {C A : TC} {D : List Nat} {H : Heap} {v : IV} {E : Nat} {f : α → List IV} {L U : Option IV} (o : Own D H v E (xs.map f)) (ht : tc P t = some C) (hk : C.kd = .slice e) (he : tc P e = some A) (hE : A.size = E)
    (hb : ibnd L U none xs.length = some (lo.toNat, hi.toNat, none)) (ks : sli xs lo hi = some l) : ∃ v', (∀ H', Same D H' H → islice P H' t v L U none = some v') ∧ Own D H v' E (l.map f) := by
  obtain ⟨v', h1, h2⟩ := o.slice ht hk he hE (by rw [List.length_map]; exact hb)
  refine ⟨v', h1, ?_⟩
  rw [(sli_facts ks).2.2.2, List.map_take, List.map_drop]
  exact h2
theorem slice_simB {P : Program} {t e : TypeId} {C A : TC} {f : α → List IV} {L U : Option IV} (ht : tc P t = some C) (hk : C.kd = .slice e) (he : tc P e = some A) (hE : ∀ x, (f x).length = A.size)
    (hb : ibnd L U none xs.length = some (lo.toNat, hi.toNat, none)) (ks : sli xs lo hi = some l) (H : Heap) : islice P H t (.sim (xs.map f) false) L U none = some (.sim (l.map f) false) := by
  simp only [islice, ht, hk, he, List.length_map, hb]
  rw [if_pos]
  · rw [(sli_facts ks).2.2.2, List.map_take, List.map_drop]; rfl
  · intro r hr
    obtain ⟨x, _, rfl⟩ := List.mem_map.1 hr
    exact hE x
theorem slice_strB {P : Program} {t : TypeId} {C : TC} {L U : Option IV} (ht : tc P t = some C) (hk : C.kd = .string) (hb : ibnd L U none s.size = some (lo.toNat, hi.toNat, none)) (ks : bsli s lo hi = some r) (H : Heap) : islice P H t (.str s) L U none = some (.str r) := by
  simp only [islice, ht, hk, hb]
  rw [(bsli_facts ks).2.2.2]
def slice_sim {P : Program} {t e : TypeId} {C A : TC} {f : α → List IV} (ht : tc P t = some C) (hk : C.kd = .slice e) (he : tc P e = some A) (hE : ∀ x, (f x).length = A.size) (ks : sli xs lo hi = some l) (H : Heap) := slice_simB (P := P) ht hk he hE (bnds ks) ks H
def slice_sim0 {P : Program} {t e : TypeId} {C A : TC} {f : α → List IV} (ht : tc P t = some C) (hk : C.kd = .slice e) (he : tc P e = some A) (hE : ∀ x, (f x).length = A.size) (ks : sli xs 0 hi = some l) (H : Heap) := slice_simB (P := P) ht hk he hE (bnds0 ks) ks H
def slice_simE {P : Program} {t e : TypeId} {C A : TC} {f : α → List IV} (ht : tc P t = some C) (hk : C.kd = .slice e) (he : tc P e = some A) (hE : ∀ x, (f x).length = A.size) (ks : sli xs lo (xs.length : Int) = some l) (H : Heap) := slice_simB (P := P) ht hk he hE (bndsE ks) ks H
def slice_sim0E {P : Program} {t e : TypeId} {C A : TC} {f : α → List IV} (ht : tc P t = some C) (hk : C.kd = .slice e) (he : tc P e = some A) (hE : ∀ x, (f x).length = A.size) (ks : sli xs 0 (xs.length : Int) = some l) (H : Heap) := slice_simB (P := P) ht hk he hE (bnds0E ks) ks H
def slice_str {P : Program} {t : TypeId} {C : TC} (ht : tc P t = some C) (hk : C.kd = .string) (ks : bsli s lo hi = some r) (H : Heap) := slice_strB (P := P) ht hk (bndB (bsli_facts ks).1 (bsli_facts ks).2.1 (bsli_facts ks).2.2.1) ks H
def slice_str0 {P : Program} {t : TypeId} {C : TC} (ht : tc P t = some C) (hk : C.kd = .string) (ks : bsli s 0 hi = some r) (H : Heap) := slice_strB (P := P) ht hk (bnd0 (bsli_facts ks).2.1 (bsli_facts ks).2.2.1) ks H
def slice_strE {P : Program} {t : TypeId} {C : TC} (ht : tc P t = some C) (hk : C.kd = .string) (ks : bsli s lo (s.size : Int) = some r) (H : Heap) := slice_strB (P := P) ht hk (bndT (bsli_facts ks).1 (bsli_facts ks).2.1) ks H
end slices
theorem bin_sadd {P : Program} {t : TypeId} {a b s : ByteArray} {c : Bool} (h : sadd a b = some s) : ibin P .add t (.str a) (.str b) c = some (.str s) := by
  unfold sadd at h
  simp only [ibin]
  split at h
  · cases h
  · rename_i hn
    rw [if_neg hn]
    rw [Option.some.inj h]
theorem nil_cmp {P : Program} {t e : TypeId} {C : TC} {c : Bool} (ht : tc P t = some C) (hk : C.kd = .pointer e) : (∀ r i o, ibin P .eql t (.pim r i o) .nilp c = some (.bool false)) ∧ (∀ r i o, ibin P .neq t (.pim r i o) .nilp c = some (.bool true)) ∧
    (∀ r i o, ibin P .eql t (.pb r i o) .nilp c = some (.bool false)) ∧ (∀ r i o, ibin P .neq t (.pb r i o) .nilp c = some (.bool true)) := by
  refine ⟨fun r i o => ?_, fun r i o => ?_, fun r i o => ?_, fun r i o => ?_⟩ <;> simp [ibin, ieqO, ht, hk]
theorem splice_all' {cs xs : List IV} (h : cs.length = xs.length) : splice cs 0 xs = xs := splice_all cs xs h
theorem putO_some (a : Fr) (d : Nat) (v : IV) : a.putO (some d) v = a.put d v := rfl
theorem KpF {ks0 : List Nat} {n : Nat} {a a0 : Fr} (h : Kp ks0 n a a0) : a.n = a0.n ∧ a.b = a0.b ∧ (∀ t, t < n → t ∉ ks0 → a.get t = a0.get t) ∧ ∀ (ks : List Nat) (x : Fr), (∀ t ∈ ks0, t ∈ ks) → Kp ks n a x = Kp ks n a0 x := ⟨h.1.1, h.1.2, h.2, fun _ _ => Kp_step h⟩
theorem KHF {ks0 : List Nat} {H H0 : Heap} (h : KH ks0 H H0) : (∀ k g, k ∉ ks0 → H.get ⟨k, g⟩ = H0.get ⟨k, g⟩) ∧ (∀ (ks : List Nat) (X : Heap), (∀ t ∈ ks0, t ∈ ks) → KH ks H X = KH ks H0 X) ∧ ∀ (D : List Nat) (X : Heap), (∀ d ∈ D, d ∉ ks0) → Same D H X = Same D H0 X :=
  ⟨fun _ _ hk => (h _ hk).1, fun _ _ => KH_step h, fun _ _ => Same_step h⟩
theorem apF {k : Nat} {l : List Nat} (h : k ∉ l) : (∀ s, s ∈ l → (s = k) = False) ∧ ∀ s, s ∈ l → (k = s) = False := ⟨fun s hs => eq_false fun e => h (e ▸ hs), fun s hs => eq_false fun e => h (e ▸ hs)⟩
theorem iia_arr {P : Program} {t e n m : Nat} {C A : TC} {j : Int} (ht : tc P t = some C) (hk : C.kd = .array n e) (he : tc P e = some A) (hj : 0 ≤ j ∧ j < n) (hm : j.toNat * A.size = m) :
    (∀ H k id i o, iiaddr P H t (.pb id i o) (.int k j) = some (.pb id i (o + m))) ∧ ∀ H k r i o, iiaddr P H t (.pim r i o) (.int k j) = some (.pim r i (o + m)) := by
  constructor <;> intros <;> simp only [iiaddr, ht, hk, he, hm] <;> rw [if_pos hj]
theorem iia_arrV {P : Program} {t e n m : Nat} {C A : TC} {j jn : Int} (hjn : j = jn) (ht : tc P t = some C) (hk : C.kd = .array n e) (he : tc P e = some A) (hj : 0 ≤ jn ∧ jn < n) (hm : jn.toNat * A.size = m) :
    (∀ H k id i o, iiaddr P H t (.pb id i o) (.int k j) = some (.pb id i (o + m))) ∧ ∀ H k r i o, iiaddr P H t (.pim r i o) (.int k j) = some (.pim r i (o + m)) := by
  subst hjn; exact iia_arr ht hk he hj hm
theorem index_arr {P : Program} {t e n m : Nat} {C A : TC} {k : IntKind} {j jn : Int} {cs : List IV} (hjn : j = jn) (ht : tc P t = some C) (hk : C.kd = .array n e) (he : tc P e = some A) (hj : 0 ≤ jn ∧ jn < n) (hm : jn.toNat * A.size = m) :
    iindex P t (.agg cs) (.int k j) = ipart A.agg A.size m cs := by
  subst hjn
  simp only [iindex, ht, hk, he]
  rw [if_pos hj, hm]
theorem Own.cf {D : List Nat} {H : Heap} {v : IV} {E : Nat} {rows : List (List IV)} (h : Own D H v E rows) : v.cells = some [v] ∧ v.one = true := by
  rcases h with ⟨rfl, rfl⟩ | ⟨id, i, full, b, h1, rfl, h3, h4⟩ <;> exact ⟨rfl, rfl⟩
theorem opt_none {α β : Type} (f : α → β) : Option.map f none = none := rfl
def S4 := And.intro @A2_at_t (And.intro @A2_at_f (And.intro @Kp_hi (And.intro @Kp_in (And.intro @KH_new (And.intro @KH_put (And.intro @KH_del (And.intro @Same_new (And.intro @Same_put (And.intro @Same_del (And.intro @putO_some @opt_none))))))))))
def SB := And.intro S0 (And.intro S1 (And.intro S2 (And.intro S3 S4)))
end Go.Proofs.Ytodafoajkajnkaa.IL
