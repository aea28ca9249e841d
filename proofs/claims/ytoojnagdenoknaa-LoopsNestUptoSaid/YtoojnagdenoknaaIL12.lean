/- The ideal logic, part 12: a function from its beginning to its end; what is returned becomes immutable. Nothing here speaks of a given program. -/
import Derived.Test.YtoojnagdenoknaaIL11
set_option linter.unusedSectionVars false
set_option linter.unnecessarySimpa false
set_option linter.unusedVariables false
set_option linter.unusedSimpArgs false
namespace Go.Proofs.Ytoojnagdenoknaa.IL
open Go Go.RowKit
def iress (P : Program) (a : Fr) (H : Heap) : List ResultVar → Option (List IV)
  | [] => some []
  | .tmp t :: r => match iress P a H r with
    | some vs => some (a.get t :: vs)
    | none => none
  | .cell p t :: r => match iload P H t (a.get p), iress P a H r with
    | some v, some vs => some (v :: vs)
    | _, _ => none
def ires (P : Program) (fn : Func) (a : Fr) (H : Heap) : Option IV :=
  match iress P a H fn.results.toList with
  | some [v] => some v
  | some vs => some (.tup vs)
  | none => none
def resOne (tmps : Array Value) : ResultVar → Sem Value
  | .tmp t => pure (tmps.getD t undef)
  | .cell p t => do loadVar t (← asAddr (tmps.getD p undef))
theorem results_eq (fn : Func) (tmps : Array Value) : results fn tmps = (do let vs ← fn.results.mapM (resOne tmps); pure (if h : vs.size = 1 then vs[0] else .tuple vs)) := by
  unfold results
  congr 1
theorem zzD {P : Program} {J : Inj} {S : Sure} {a : Fr} {ra : Act} {H : Heap} {w : World} (hF : RelF J S a ra) (hH : RelH J S H w) : ∀ (l : List ResultVar) (vs : List IV), iress P a H l = some vs →
    ∃ us : List Value, (l.mapM (resOne ra.tmps)).run P w = .ok us w ∧ VRs J S vs us.toArray
  | [], vs, h => by
    simp only [iress, Option.some.injEq] at h
    subst h
    exact ⟨[], rfl, rfl, by simp⟩
  | .tmp t :: r, vs, h => by
    simp only [iress] at h
    split at h
    · rename_i vs' h'
      cases h
      obtain ⟨us, h1, h2, h3⟩ := zzD hF hH r vs' h'
      refine ⟨ra.tmps.getD t undef :: us, ?_, by simpa using h2, fun k v u hv hu => ?_⟩
      · rw [List.mapM_cons]
        simp only [Sem.run_bind, resOne, Sem.run_pure, Result.andThen_ok, h1]
      · cases k with
        | zero =>
          have hv' : a.get t = v := by simpa using hv
          have hu' : ra.tmps.getD t undef = u := by simpa using hu
          rw [← hv', ← hu']; exact hF.val t
        | succ k => exact h3 k v u (by simpa using hv) (by simpa using hu)
    · cases h
  | .cell p t :: r, vs, h => by
    simp only [iress] at h
    split at h
    · rename_i v' vs' hl h'
      cases h
      obtain ⟨us, h1, h2, h3⟩ := zzD hF hH r vs' h'
      obtain ⟨u, g1, g2⟩ := load_sound hl hH (hF.val p)
      have hp : ∃ ad, ra.tmps.getD p undef = .pointer (some ad) := by
        unfold iload at hl
        split at hl
        · rename_i hr
          obtain ⟨ad, had, _⟩ := row_read hH (hF.val p) hr
          exact ⟨ad, had⟩
        · cases hl
      obtain ⟨ad, had⟩ := hp
      refine ⟨u :: us, ?_, by simpa using h2, fun k v x hv hx => ?_⟩
      · rw [List.mapM_cons]
        simp only [Instr.loadAt, had, Instr.sureAddr, Sem.run_bind, Sem.run_pure, Result.andThen_ok] at g1
        have e1 : (resOne ra.tmps (.cell p t)).run P w = .ok u w := by
          simp only [resOne, Sem.run_bind, had, asAddr, Sem.run_pure, Result.andThen_ok, g1]
        simp only [Sem.run_bind, e1, Result.andThen_ok, h1, Sem.run_pure]
      · cases k with
        | zero => simp at hv hx; subst hv; subst hx; exact g2
        | succ k => exact h3 k v x (by simpa using hv) (by simpa using hx)
    · cases h
theorem ires_sound {P : Program} {fn : Func} {J : Inj} {S : Sure} {a : Fr} {ra : Act} {H : Heap} {w : World} (hF : RelF J S a ra) (hH : RelH J S H w) {v : IV} (h : ires P fn a H = some v) : ∃ u, (results fn ra.tmps).run P w = .ok u w ∧ VR J S v u := by
  have key : ∀ vs, iress P a H fn.results.toList = some vs → ∃ us : List Value, VRs J S vs us.toArray ∧ (results fn ra.tmps).run P w = .ok (if h : us.toArray.size = 1 then us.toArray[0] else .tuple us.toArray) w := by
    intro vs hvs
    obtain ⟨us, h1, h2⟩ := zzD (P := P) hF hH _ _ hvs
    refine ⟨us, h2, ?_⟩
    rw [results_eq, Array.mapM_eq_mapM_toList]
    simp only [Sem.run_bind, Sem.run_map, h1, Result.andThen_ok, Sem.run_pure]
  unfold ires at h
  split at h
  · rename_i v' hvs
    cases h
    obtain ⟨us, h1, h2⟩ := key _ hvs
    obtain ⟨u, hu, hv⟩ := h1.one
    refine ⟨u, ?_, hv⟩
    rw [h2]
    simp only [hu]
    simp
  · rename_i vs hne hvs
    cases h
    obtain ⟨us, h1, h2⟩ := key _ hvs
    refine ⟨.tuple us.toArray, ?_, .tup h1.1 h1.2⟩
    rw [h2, dif_neg]
    intro h1'
    have hl : vs.length = 1 := by rw [h1.1]; exact h1'
    match vs, hl with
    | [x], _ => exact hne x rfl
  · cases h
def fr0 (n b : Nat) (args : List IV) : Fr := { n := n, b := b, get := fun t => args.getD t .junk }
theorem fr0_rel {J : Inj} {S : Sure} {args : List IV} {us : Array Value} (hG : GOk S) (h : VRs J S args us) {n b : Nat} (hn : args.length ≤ n) : RelF J S (fr0 n b args) { tmps := us ++ Array.replicate (n - us.size) undef, defers := [] } := by
  refine ⟨hG, by simp [fr0]; have := h.1; omega, fun t => ?_⟩
  simp only [fr0]
  by_cases ht : t < args.length
  · have ht' : t < us.size := by rw [← h.1]; exact ht
    have e1 : args.getD t .junk = args[t] := by simp [List.getD, ht]
    have e2 : (us ++ Array.replicate (n - us.size) undef).getD t undef = us[t] := by
      rw [Array.getD_eq_getD_getElem?, Array.getElem?_append_left ht']
      simp [ht']
    rw [e1, e2]
    exact h.2 t _ _ (by simp [ht]) (by simp [ht'])
  · have e1 : args.getD t .junk = .junk := by simp [List.getD, List.getElem?_eq_none (Nat.le_of_not_lt ht)]
    rw [e1]
    exact .junk _
def retQ (P : Program) (fn : Func) (K : IV → Heap → Prop) : Exit → Fr → Heap → Prop
  | .normal, a, H | .ret, a, H => ∃ v, ires P fn a H = some v ∧ K v H
  | _, _, _ => False
theorem leaves_marks {P : Program} {fn : Func} {tmps : Array Value} {R : Ending → World → Prop} {B : Nat} : ∀ (ds : List Deferred) (w : World), Okr B none ds w →
    (∀ w', w'.heap.size = w.heap.size → (∀ k, (∀ d ∈ ds, d.target ≠ .collected k) → w'.heap[k]? = w.heap[k]?) → w'.os = w.os → w'.tape = w.tape → w'.output = w.output → ∃ v, (results fn tmps).run P w' = .ok v w' ∧ R (.returned v) w') → LeavesInM (FX none) 0 P fn tmps R ds .returning w
  | [], w, hO, hR => hR w rfl (fun _ _ => rfl) rfl rfl rfl
  | d :: ds, w, hO, hR => by
    obtain ⟨D, rfl, hB, hD⟩ := hO.marks d (by simp)
    obtain ⟨hn1, hn2⟩ := List.nodup_cons.1 hO.nodup
    have hlt : D < w.heap.size := (Array.getElem?_eq_some_iff.1 hD).1
    refine ⟨by simp, .inl ⟨D, _, rfl, run_takeDeferred hD, ?_⟩⟩
    refine leaves_marks (B := B) ds _ ⟨?_, hn2, fun l hl => (by cases hl), by simpa using hO.base⟩ ?_
    · intro e he
      obtain ⟨D2, rfl, h2, h3⟩ := hO.marks e (by simp [he])
      refine ⟨D2, rfl, h2, ?_⟩
      have hne : D2 ≠ D := by rintro rfl; exact hn1 he
      rw [World.putObj_heap_other (by omega)]; exact h3
    · intro w' h1 h2 h3 h4 h5
      refine hR w' ?_ ?_ (h3.trans rfl) (h4.trans rfl) (h5.trans rfl)
      · rw [h1]; simp [World.putObj]
      · intro k hk
        have hne : k ≠ D := fun e => hk { target := .collected D, args := #[] } (by simp) (by rw [e])
        rw [h2 k (fun d hd => hk d (by simp [hd])), World.putObj_heap_other (by omega)]
theorem marks_rel {J0 J : Inj} {S0 S : Sure} {H0 H : Heap} {w0 w w' : World} {B : Nat} {ds : List Deferred} (hB : w0.heap.size ≤ B) (hO : Okr B none ds w) (hH : RelH J S H w) (hE : Ext J0 S0 H0 w0 J S H w) (h1 : w'.heap.size = w.heap.size)
    (h2 : ∀ k, (∀ d ∈ ds, d.target ≠ .collected k) → w'.heap[k]? = w.heap[k]?) (h3 : w'.os = w.os) (h4 : w'.tape = w.tape) (h5 : w'.output = w.output) : RelH J S H w' ∧ Ext J0 S0 H0 w0 J S H w' := by
  have keep : ∀ (k : Nat) (o : Obj), w.heap[k]? = some o → (o.isCells = true ∨ ¬ notLoop o) → w'.heap[k]? = w.heap[k]? := fun k o ho hc => h2 k fun d hd e => by
    obtain ⟨D, rfl, _, hD⟩ := hO.marks d hd
    cases e
    rw [hD] at ho; cases ho
    rcases hc with hc | hc
    · cases hc
    · exact hc trivial
  refine ⟨⟨fun id b hb => ?_, hH.inj, fun a v hav => ?_, hH.next, fun id s hs => ?_⟩, ⟨hE.hJ, hE.hS, hE.snew, hE.own, fun k hk ho => ?_, by rw [h1]; exact hE.size, h3.trans hE.os, h4.trans hE.tape, h5.trans hE.output, hE.next, fun k r hk => ?_⟩⟩
  · obtain ⟨L, hL, hat⟩ := hH.blk id b hb
    obtain ⟨o, ho, hor⟩ := hat.any
    refine ⟨L, hL, hat.heap (keep _ _ ho ?_)⟩
    rcases hor with ⟨_, cs, t, f, rfl⟩ | ⟨_, es, c, rfl⟩
    · exact .inl rfl
    · exact .inr fun h => h
  · obtain ⟨x1, x2⟩ := hH.sure a v hav
    refine ⟨?_, x2⟩
    cases a with
    | c a =>
      have x1 : w.cell? a = some v := x1
      have hc : ∃ cs t p, w.heap[a.block]? = some (.cells cs t p) := by
        unfold World.cell? at x1
        cases ho : w.heap[a.block]? with
        | none => simp [ho] at x1
        | some o => cases o <;> simp [ho] at x1 <;> exact ⟨_, _, _, rfl⟩
      obtain ⟨cs, t, p, hc⟩ := hc
      have := keep _ _ hc (.inl rfl)
      show w'.cell? a = some v
      unfold World.cell? at x1 ⊢
      rw [this]; exact x1
    | m b =>
      obtain ⟨es, c, g1, rfl⟩ := kno_m x1
      have := keep _ _ g1 (.inr fun h => h)
      show mlook w'.heap[b]? = _
      rw [this, g1]; rfl
  · obtain ⟨L, hL, hat⟩ := hH.lps id s hs
    obtain ⟨r, hr, _⟩ := hat.rec_
    exact ⟨L, hL, hat.heap (keep _ _ hr (.inr fun h => h))⟩
  · refine (h2 k fun d hd e => ?_).trans (hE.keep k hk ho)
    obtain ⟨D, rfl, hD, _⟩ := hO.marks d hd
    cases e
    omega
  · obtain ⟨r', hr'⟩ := hE.lp k r hk
    exact ⟨r', (keep _ _ hr' (.inr fun h => h)).trans hr'⟩
theorem CallW_intro {P : Program} (b : Nat) {f : FuncId} {fn : Func} {c : Code} {args : List IV} {H : Heap} {K : IV → Heap → Prop} (hf : P.funcs[f]? = some fn) (hb : fn.body = some c) (hname : (fn.name == "runtime.NumGoroutine") = false) (hn : args.length ≤ fn.ntmps)
    (h : W P c (retQ P fn K) (fr0 fn.ntmps b args) H) : CallW P f args H K := by
  refine ⟨⟨fn, hf, by simp [hb], hname⟩, fun J S w us hG hH ha => ?_⟩
  refine calls_FX (n := 0) (callsIn_of_wp_marks hf hb trivial ?_)
  refine wpIn_mono (h w.heap.size none J S _ w (fr0_rel hG ha hn) hH ⟨fun d hd => (by cases hd), List.nodup_nil, fun l hl => (by cases hl), Nat.le_refl _⟩) ?_
  rintro e ra' w' ⟨J', S', a', H', q, hF', hH', hE, hO⟩
  have fin : (∃ v, ires P fn a' H' = some v ∧ K v H') → LeavesInM (FX none) 0 P fn ra'.tmps (fun e w' => ∃ J' S' u v H', e = .returned u ∧ K v H' ∧ VR J' S' v u ∧ RelH J' S' H' w' ∧ Ext J S H w J' S' H' w') ra'.defers .returning w' := by
    rintro ⟨v, h1, h2⟩
    refine leaves_marks ra'.defers w' hO ?_
    intro w2 g1 g2 g3 g4 g5
    obtain ⟨x1, x2⟩ := marks_rel (Nat.le_refl _) hO hH' hE g1 g2 g3 g4 g5
    obtain ⟨u, h3, h4⟩ := ires_sound hF' x1 h1
    exact ⟨u, h3, J', S', u, v, H', rfl, h2, h4, x1, x2⟩
  cases e with
  | normal => exact fin q
  | ret => exact fin q
  | _ => exact q.elim
inductive Fz (H : Heap) : IV → IV → Prop
  | cl {v : IV} (h : closed v) : Fz H v v
  | nils {full : Bool} : Fz H .nils (.sim [] full)
  | sb {id : Id} {b : Blk} {i n : Nat} {full : Bool} {rows : List (List IV)} (hb : H.get id = some b) (hn : i + n ≤ b.rows.length) (hl : rows.length = n) (hr : ∀ (r : Nat) (row row' : List IV), b.rows[i + r]? = some row → rows[r]? = some row' → row.length = row'.length)
      (hv : ∀ (r : Nat) (row row' : List IV) (c : Nat) (v v' : IV), b.rows[i + r]? = some row → rows[r]? = some row' → row[c]? = some v → row'[c]? = some v' → Fz H v v') : Fz H (.sb id i n full) (.sim rows false)
  | pb {id : Id} {b : Blk} {i o : Nat} {rows : List (List IV)} (hb : H.get id = some b) (hl : rows.length = b.rows.length) (hr : ∀ (r : Nat) (row row' : List IV), b.rows[r]? = some row → rows[r]? = some row' → row.length = row'.length)
      (hv : ∀ (r : Nat) (row row' : List IV) (c : Nat) (v v' : IV), b.rows[r]? = some row → rows[r]? = some row' → row[c]? = some v → row'[c]? = some v' → Fz H v v') : Fz H (.pb id i o) (.pim rows i o)
  | mp {id : Id} {b : Blk} {rows : List (List IV)} (hb : H.get id = some b) (hl : rows.length = b.rows.length) (hr : ∀ (r : Nat) (row row' : List IV), b.rows[r]? = some row → rows[r]? = some row' → row.length = row'.length)
      (hv : ∀ (r : Nat) (row row' : List IV) (c : Nat) (v v' : IV), b.rows[r]? = some row → rows[r]? = some row' → row[c]? = some v → row'[c]? = some v' → Fz H v v') : Fz H (.mp id) (.mim rows)
  | fn {f : Fn} {cs cs' : List IV} (hl : cs.length = cs'.length) (hv : ∀ (k : Nat) (v v' : IV), cs[k]? = some v → cs'[k]? = some v' → Fz H v v') : Fz H (.fn f [] cs) (.fn f [] cs')
  | agg {cs cs' : List IV} (hl : cs.length = cs'.length) (hv : ∀ (k : Nat) (v v' : IV), cs[k]? = some v → cs'[k]? = some v' → Fz H v v') : Fz H (.agg cs) (.agg cs')
  | tup {cs cs' : List IV} (hl : cs.length = cs'.length) (hv : ∀ (k : Nat) (v v' : IV), cs[k]? = some v → cs'[k]? = some v' → Fz H v v') : Fz H (.tup cs) (.tup cs')
def allSure (J : Inj) (S : Sure) (H : Heap) (w : World) : Sure := fun a v => S a v ∨ (kno w a = some v ∧ Owns J H a.blk)
theorem Fz.sound {H : Heap} {J : Inj} {S : Sure} {w : World} (hH : RelH J S H w) {v r : IV} (h : Fz H v r) : ∀ u, VR J S v u → VR (fun _ => none) (allSure J S H w) r u := by
  induction h with
  | cl h => exact fun u hu => (h J S u hu).mono (fun _ _ h => h) (fun _ _ h => .inl h)
  | nils => intro u hu; cases hu; exact .simnil
  | sb hb hn hl hr hv ih =>
    rename_i id b i n full rows
    intro u hu
    cases hu with
    | sb hL hc hz hf hm =>
      rename_i L c ad
      obtain ⟨L', hL', hat⟩ := hH.blk id b hb
      rw [hL] at hL'; cases hL'
      replace hat := hat.reg hm
      obtain ⟨us, ty, g1, g2, g3⟩ := hat.cell
      have row_of : ∀ (r : Nat) (row' : List IV), rows[r]? = some row' → ∃ row, b.rows[i + r]? = some row := by
        intro r row' hr'
        have : r < rows.length := (List.getElem?_eq_some_iff.1 hr').1
        exact ⟨b.rows[i + r]'(by omega), by simp⟩
      have := VR.sim (J := fun _ => none) (S := allSure J S H w) (rows := rows) (full := false) (c := c) (E := b.E) (base := ad) (f := fun r k => (w.cell? (ad.add (r * b.E + k))).getD undef)
        (fun r row' hr' => by
          obtain ⟨row, hrow⟩ := row_of r row' hr'
          rw [← hr r row row' hrow hr']
          exact hat.row _ _ hrow)
        (fun r row' k v' hr' hv' => by
          obtain ⟨row, hrow⟩ := row_of r row' hr'
          have hk : k < row.length := by rw [hr r row row' hrow hr']; exact (List.getElem?_eq_some_iff.1 hv').1
          obtain ⟨x, hx, hvx⟩ := g3 _ row k row[k] hrow (by simp [hk])
          have hr0 : r < rows.length := (List.getElem?_eq_some_iff.1 hr').1
          obtain ⟨z1, z2⟩ := hz (by omega)
          subst z1
          have hcell : w.cell? ((⟨L.rb, L.ro + i * L.E, none⟩ : Addr).add (r * b.E + k)) = some x := by
            rw [yO, zzP g1, ← hx, hat.E]
            congr 1
            rw [Nat.add_mul]; omega
          rw [hcell]
          refine .inr ⟨hcell, id, L, .inl ⟨b, hb⟩, hL, ?_⟩
          rw [yO]; rfl)
        (fun r row' k v' hr' hv' => by
          obtain ⟨row, hrow⟩ := row_of r row' hr'
          have hk : k < row.length := by rw [hr r row row' hrow hr']; exact (List.getElem?_eq_some_iff.1 hv').1
          obtain ⟨x, hx, hvx⟩ := g3 _ row k row[k] hrow (by simp [hk])
          have hr0 : r < rows.length := (List.getElem?_eq_some_iff.1 hr').1
          obtain ⟨z1, z2⟩ := hz (by omega)
          subst z1
          have hcell : w.cell? ((⟨L.rb, L.ro + i * L.E, none⟩ : Addr).add (r * b.E + k)) = some x := by
            rw [yO, zzP g1, ← hx, hat.E]
            congr 1
            rw [Nat.add_mul]; omega
          rw [hcell]
          exact ih r row row' k row[k] v' hrow hr' (by simp [hk]) hv' x hvx)
        (by omega) (by simp)
      rw [hl] at this
      exact this
  | pb hb hl hr hv ih =>
    rename_i id b i o rows
    intro u hu
    cases hu with
    | pb hL hm =>
      rename_i L
      obtain ⟨L', hL', hat⟩ := hH.blk id b hb
      rw [hL] at hL'; cases hL'
      replace hat := hat.reg hm
      obtain ⟨us, ty, g1, g2, g3⟩ := hat.cell
      have row_of : ∀ (r : Nat) (row' : List IV), rows[r]? = some row' → ∃ row, b.rows[r]? = some row := by
        intro r row' hr'
        have : r < rows.length := (List.getElem?_eq_some_iff.1 hr').1
        exact ⟨b.rows[r]'(by omega), by simp⟩
      have cell : ∀ (r : Nat) (row' : List IV) (k : Nat) (v' : IV), rows[r]? = some row' → row'[k]? = some v' → ∃ row v x, b.rows[r]? = some row ∧ row[k]? = some v ∧ w.cell? ((⟨L.rb, L.ro, none⟩ : Addr).add (r * b.E + k)) = some x ∧ VR J S v x := by
        intro r row' k v' hr' hv'
        obtain ⟨row, hrow⟩ := row_of r row' hr'
        have hk : k < row.length := by rw [hr r row row' hrow hr']; exact (List.getElem?_eq_some_iff.1 hv').1
        obtain ⟨x, hx, hvx⟩ := g3 _ row k row[k] hrow (by simp [hk])
        refine ⟨row, row[k], x, hrow, by simp [hk], ?_, hvx⟩
        rw [yO, zzP g1, ← hx]
        congr 1; omega
      have := VR.pim (J := fun _ => none) (S := allSure J S H w) (rows := rows) (i := i) (o := o) (E := b.E) (base := ⟨L.rb, L.ro, none⟩) (f := fun r k => (w.cell? ((⟨L.rb, L.ro, none⟩ : Addr).add (r * b.E + k))).getD undef)
        (fun r row' hr' => by
          obtain ⟨row, hrow⟩ := row_of r row' hr'
          rw [← hr r row row' hrow hr']
          exact hat.row _ _ hrow)
        (fun r row' k v' hr' hv' => by
          obtain ⟨row, v, x, h1, h2, h3, h4⟩ := cell r row' k v' hr' hv'
          rw [h3]
          exact .inr ⟨h3, id, L, .inl ⟨b, hb⟩, hL, by rw [yO]; rfl⟩)
        (fun r row' k v' hr' hv' => by
          obtain ⟨row, v, x, h1, h2, h3, h4⟩ := cell r row' k v' hr' hv'
          rw [h3]
          exact ih r row row' k v v' h1 hr' h2 hv' x h4)
      rw [yO, ← hat.E] at this
      rw [Nat.add_assoc]
      exact this
  | mp hb hl hr hv ih =>
    rename_i id b rows
    intro u hu
    cases hu with
    | mp hL hm =>
      rename_i L
      obtain ⟨L', hL', hat⟩ := hH.blk id b hb
      rw [hL] at hL'; cases hL'
      obtain ⟨es, c, g1, g2, g3, g4⟩ := (hat.mp hm).obj
      refine .mim (es := es) (c := c) (.inr ⟨?_, id, L, .inl ⟨b, hb⟩, hL, rfl⟩) (by omega) g3 (fun i x hx => (g4 i x hx).1) ?_ ?_ ?_
      · show mlook w.heap[L.rb]? = _
        rw [g1]; rfl
      · intro i row hi
        have hlt : i < rows.length := (List.getElem?_eq_some_iff.1 hi).1
        have hx : es[i]? = some (es[i]'(by omega)) := by simp
        obtain ⟨_, k, v, h5, _, _⟩ := g4 i _ hx
        have := hr i [k, v] row h5 hi
        match row, this with
        | [k', v'], _ => exact ⟨k', v', rfl⟩
      · intro i x k' v' hx hi
        obtain ⟨_, k, v, h5, h6, h7⟩ := g4 i x hx
        exact ih i _ _ 0 k k' h5 hi rfl rfl _ h6
      · intro i x k' v' hx hi
        obtain ⟨_, k, v, h5, h6, h7⟩ := g4 i x hx
        exact ih i _ _ 1 v v' h5 hi rfl rfl _ h7
  | fn hl hv ih =>
    intro u hu
    cases hu with
    | fn h1 h2 hV1 hV2 =>
      rename_i f cs cs' fs us
      refine .fn h1 (by omega) (fun k v x hv hx => by simp at hv) fun k v' x hv' hx => ?_
      have hk : k < cs.length := by rw [hl]; exact (List.getElem?_eq_some_iff.1 hv').1
      exact ih k cs[k] v' (by simp [hk]) hv' x (hV2 k cs[k] x (by simp [hk]) hx)
  | agg hl hv ih =>
    intro u hu
    cases hu with
    | agg h1 h2 =>
      rename_i cs cs' us
      refine .agg (by omega) fun k v' x hv' hx => ?_
      have hk : k < cs.length := by rw [hl]; exact (List.getElem?_eq_some_iff.1 hv').1
      exact ih k cs[k] v' (by simp [hk]) hv' x (h2 k cs[k] x (by simp [hk]) hx)
  | tup hl hv ih =>
    intro u hu
    cases hu with
    | tup h1 h2 =>
      rename_i cs cs' us
      refine .tup (by omega) fun k v' x hv' hx => ?_
      have hk : k < cs.length := by rw [hl]; exact (List.getElem?_eq_some_iff.1 hv').1
      exact ih k cs[k] v' (by simp [hk]) hv' x (h2 k cs[k] x (by simp [hk]) hx)
theorem nil_rel {S : Sure} {w : World} (hs : ∀ a v, S a v → kno w a = some v) (N : Nat → Nat) : RelH (fun _ => none) S (.nil N) w :=
  { blk := fun id b hb => (by cases hb)
    inj := fun id id' L L' hb hb' hL hL' hr => (by cases hL)
    sure := fun a v h => ⟨hs a v h, yR⟩
    next := fun id L h => (by cases h)
    lps := fun id s h => (by cases h) }
theorem PCall_intro {P : Program} {f : FuncId} {args : List IV} {K : IV → Prop} (hcl : ∀ v ∈ args, closed v) (h : CallW P f args (.nil fun _ => 0) fun v H' => ∃ r, Fz H' v r ∧ K r) : PCall P f args K := by
  refine ⟨h.1, hcl, fun S w us hG hs ha => ?_⟩
  refine (h.2 (fun _ => none) S w us hG (nil_rel hs _) ha).mono ?_
  rintro e w' ⟨J', S', u, v, H', he, ⟨r, hz, hK⟩, hv, hH', hE⟩
  refine ⟨allSure J' S' H' w', u, r, he, hK, hz.sound hH' u hv, ?_, ?_⟩
  · rintro a x (h | ⟨h, _⟩)
    · exact (hH'.sure a x h).1
    · exact h
  · refine ⟨fun _ _ h => h, fun a x h => .inl (hE.hS a x h), ?_, fun b hb => absurd hb yR, fun k hk hno => hE.keep k hk hno, hE.size, hE.os, hE.tape, hE.output, fun _ => Nat.le_refl _, hE.lp⟩
    rintro a x (h | ⟨_, h⟩)
    · exact hE.snew a x h
    · rcases hE.own _ h with h | h
      · exact absurd h yR
      · exact .inr (.inr h)
end Go.Proofs.Ytoojnagdenoknaa.IL
