/- The ideal logic, part 3: structs held against each other, and all operations on two operands. Nothing here speaks of a given program. -/
import Derived.Test.YtoojnagdenoknaaIL2
import Derived.ChangeKeysEq
set_option linter.unusedSectionVars false
set_option linter.unnecessarySimpa false
set_option linter.unusedVariables false
set_option linter.unusedSimpArgs false
namespace Go.Proofs.Ytoojnagdenoknaa.IL
open Go Go.RowKit
theorem kT : ∀ (l r : List SK) (xs ys : List IV) (b : Bool), eqCells (l ++ r) xs ys = some b →
    ∃ b1 b2, eqCells l (xs.take l.length) (ys.take l.length) = some b1 ∧ eqCells r (xs.drop l.length) (ys.drop l.length) = some b2 ∧ b = (b1 && b2)
  | [], r, xs, ys, b, h => ⟨true, b, by simp [eqCells], by simpa using h, by simp⟩
  | k :: l, r, [], ys, b, h => by simp [eqCells] at h
  | k :: l, r, x :: xs, [], b, h => by simp [eqCells] at h
  | k :: l, r, x :: xs, y :: ys, b, h => by
    simp only [List.cons_append, eqCells] at h
    split at h
    · cases h
    · rename_i b0 h0
      split at h
      · cases h
      · rename_i c hc
        cases h
        obtain ⟨b1, b2, h1, h2, rfl⟩ := kT l r xs ys c hc
        refine ⟨b0 && b1, b2, ?_, by simpa using h2, by simp [Bool.and_assoc]⟩
        simp [eqCells, h0, h1]
theorem yW : ∀ (l : List SK) (xs ys : List IV) (b : Bool), eqCells l xs ys = some b → xs.length = l.length ∧ ys.length = l.length
  | [], [], [], b, h => by simp
  | [], _ :: _, _, b, h => by simp [eqCells] at h
  | [], [], _ :: _, b, h => by simp [eqCells] at h
  | k :: l, [], _, b, h => by simp [eqCells] at h
  | k :: l, _ :: _, [], b, h => by simp [eqCells] at h
  | k :: l, x :: xs, y :: ys, b, h => by
    simp only [eqCells] at h
    split at h
    · cases h
    · split at h
      · cases h
      · rename_i c hc
        have := yW l xs ys c hc
        simp [this.1, this.2]
def CellsAt (J : Inj) (S : Sure) (xs : List IV) (us : Array Value) (off : Nat) : Prop := ∀ (k : Nat) (x : IV), xs[k]? = some x → ∃ u, us[off + k]? = some u ∧ VR J S x u
theorem CellsAt.take {J : Inj} {S : Sure} {xs : List IV} {us : Array Value} {off : Nat} (h : CellsAt J S xs us off) (n : Nat) : CellsAt J S (xs.take n) us off := fun k x hk => by
  rw [List.getElem?_take] at hk
  split at hk
  · exact h k x hk
  · cases hk
theorem CellsAt.drop {J : Inj} {S : Sure} {xs : List IV} {us : Array Value} {off : Nat} (h : CellsAt J S xs us off) (n : Nat) : CellsAt J S (xs.drop n) us (off + n) := fun k x hk => by
  rw [List.getElem?_drop] at hk
  obtain ⟨u, hu, hv⟩ := h _ x hk
  exact ⟨u, by rw [← hu]; congr 1; omega, hv⟩
theorem ym {P : Program} {t : TypeId} {d : TypeDesc} (h : P.underlying t = some d) (w : World) : (isAgg t).run P w = .ok (aggD d) w := by
  simp only [isAgg, Sem.run_bind, run_underlying h, Result.andThen_ok]
  cases d <;> rfl
theorem yF {P : Program} {t : TypeId} (h : (P.info? t).isSome = true) (w : World) : (sizeOf t).run P w = .ok (szOf P t) w := by
  obtain ⟨i, hi⟩ := Option.isSome_iff_exists.1 h
  simp [sizeOf, typeInfo, hi, szOf]
theorem zw {P : Program} {t : TypeId} {d : TypeDesc} (h : P.underlying t = some d) : (P.info? t).isSome = true := by
  unfold Program.underlying at h
  split at h <;> simp_all
def EqT (P : Program) (t : TypeId) (sh : List SK) (m : Nat) : Prop :=
  ∀ (d : Nat), m ≤ d → ∀ (us us' : Array Value) (off : Nat) (xs ys : List IV) (b : Bool) (J : Inj) (S : Sure), CellsAt J S xs us off → CellsAt J S ys us' off → eqCells sh xs ys = some b → ∀ w,
    ∃ u u', (part t us off).run P w = .ok u w ∧ (part t us' off).run P w = .ok u' w ∧ (Op.equalIn d t u u').run P w = .ok b w
theorem eqFields_run {P : Program} {m : Nat} {shape : TypeId → Option (List SK)} (hsh : ∀ t sh, shape t = some sh → EqT P t sh m) (d : Nat) (hd : m ≤ d) (us us' : Array Value) (J : Inj) (S : Sure) (w : World) :
    ∀ (fs : List Field) (off : Nat) (l : List SK) (xs ys : List IV) (b : Bool), flatFields shape off fs = some l → CellsAt J S xs us off → CellsAt J S ys us' off → eqCells l xs ys = some b →
      (Op.eqFields d us us' fs).run P w = .ok b w
  | [], off, l, xs, ys, b, hf, hx, hy, he => by
    simp only [flatFields, Option.some.injEq] at hf
    subst hf
    cases xs <;> cases ys <;> simp [eqCells] at he
    subst he
    simp [Op.eqFields]
  | f :: fs, off, l, xs, ys, b, hf, hx, hy, he => by
    unfold flatFields at hf
    split at hf
    · cases hf
    · rename_i hn
      split at hf
      · cases hf
      · rename_i ho
        have ho : f.offset = off := by simpa using ho
        split at hf
        · cases hf
        · rename_i l1 h1
          split at hf
          · cases hf
          · rename_i r hr
            cases hf
            obtain ⟨b1, b2, e1, e2, rfl⟩ := kT l1 r xs ys b he
            obtain ⟨u, u', p1, p2, q⟩ := hsh f.type l1 h1 d hd us us' off _ _ b1 J S (hx.take _) (hy.take _) e1 w
            have ih := eqFields_run hsh d hd us us' J S w fs (off + l1.length) r _ _ b2 hr (hx.drop _) (hy.drop _) e2
            rw [Op.eqFields]
            simp only [if_pos (show f.name ≠ "_" from hn), Sem.run_bind, ho, p1, p2, q, Result.andThen_ok]
            cases b1
            · simp
            · simpa using ih
theorem eqItems_run {P : Program} {m : Nat} {e : TypeId} {l : List SK} (he : EqT P e l m) (hz : P.cellsOf e = l.length) (d : Nat) (hd : m ≤ d) (us us' : Array Value) (J : Inj) (S : Sure) (w : World) :
    ∀ (k o : Nat) (xs ys : List IV) (b : Bool), CellsAt J S xs us (o * l.length) → CellsAt J S ys us' (o * l.length) → eqCells (List.replicate k l).flatten xs ys = some b →
      (Op.eqItems d e (P.cellsOf e) us us' (List.range' o k)).run P w = .ok b w
  | 0, o, xs, ys, b, hx, hy, h => by
    cases xs <;> cases ys <;> simp [eqCells] at h
    subst h
    simp [Op.eqItems]
  | k + 1, o, xs, ys, b, hx, hy, h => by
    rw [List.replicate_succ, List.flatten_cons] at h
    obtain ⟨b1, b2, e1, e2, rfl⟩ := kT _ _ xs ys b h
    obtain ⟨u, u', p1, p2, q⟩ := he d hd us us' _ _ _ b1 J S (hx.take _) (hy.take _) e1 w
    have ih := eqItems_run he hz d hd us us' J S w k (o + 1) _ _ b2 (by rw [Nat.add_mul, Nat.one_mul]; exact hx.drop _) (by rw [Nat.add_mul, Nat.one_mul]; exact hy.drop _) e2
    rw [List.range'_succ, Op.eqItems]
    simp only [Sem.run_bind, hz, p1, p2, q, Result.andThen_ok]
    rw [hz] at ih
    cases b1
    · simp
    · simpa using ih
theorem flat_eq {P : Program} : ∀ (n : Nat) (t : TypeId) (sh : List SK), flatShape P n t = some sh → EqT P t sh n
  | 0, t, sh, h => by simp [flatShape] at h
  | n + 1, t, sh, h => by
    intro d hd us us' off xs ys b J S hx hy he w
    obtain ⟨d, rfl⟩ : ∃ m, d = m + 1 := ⟨d - 1, by omega⟩
    by_cases har : ∃ k e, P.underlying t = some (.array k e)
    · obtain ⟨k, e, hu⟩ := har
      rw [flatShape] at h
      simp only [hu] at h
      split at h
      · rename_i l hl
        split at h
        · rename_i hsz
          obtain ⟨z1, z2, z3⟩ := hsz
          cases h
          obtain ⟨i, hi⟩ := Option.isSome_iff_exists.1 z3
          have hce : P.cellsOf e = l.length := by rw [← z1]; simp [Program.cellsOf, szOf, hi]
          have hlen := yW _ _ _ _ he
          have hfl : ((List.replicate k l).flatten).length = k * l.length := by simp
          have hag : ∀ vs : Array Value, (part t vs off).run P w = .ok (.agg (vs.extract off (off + k * l.length))) w := by
            intro vs
            simp only [part, Sem.run_bind, ym hu, aggD, Result.andThen_ok, if_true, yF (zw hu), z2, Sem.run_pure]
          refine ⟨_, _, hag us, hag us', ?_⟩
          rw [run_equalIn_array (P := P) w d _ _ hu hi, List.range_eq_range']
          have sub : ∀ (zs : List IV) (vs : Array Value), zs.length = k * l.length → CellsAt J S zs vs off → CellsAt J S zs (vs.extract off (off + k * l.length)) (0 * l.length) := by
            intro zs vs hz hc q x hk
            obtain ⟨u, hu1, hv⟩ := hc q x hk
            have hkl : q < zs.length := (List.getElem?_eq_some_iff.1 hk).1
            refine ⟨u, ?_, hv⟩
            rw [Array.getElem?_extract]
            have hlt : off + q < vs.size := (Array.getElem?_eq_some_iff.1 hu1).1
            rw [if_pos (by simp only [Nat.zero_mul, Nat.zero_add]; omega)]
            simpa using hu1
          exact eqItems_run (flat_eq n e l hl) hce d (by omega) _ _ J S w k 0 xs ys b (sub xs us (by rw [hlen.1, hfl]) hx) (sub ys us' (by rw [hlen.2, hfl]) hy) he
        · cases h
      · cases h
    by_cases hst : ∃ fs, P.underlying t = some (.struct fs)
    · obtain ⟨fs, hu⟩ := hst
      rw [flatShape] at h
      simp only [hu] at h
      split at h
      · cases h
      · rename_i hst
        split at h
        · rename_i l hl
          split at h
          · rename_i hsz
            obtain rfl : l = sh := by simpa using h
            have hlen := yW _ _ _ _ he
            have hag : ∀ vs : Array Value, (part t vs off).run P w = .ok (.agg (vs.extract off (off + l.length))) w := by
              intro vs
              simp only [part, Sem.run_bind, ym hu, aggD, Result.andThen_ok, if_true, yF (zw hu), hsz, Sem.run_pure]
            refine ⟨_, _, hag us, hag us', ?_⟩
            have hf : P.fieldsOf t = fs := by simp [Program.fieldsOf, hu]
            rw [run_equalIn_struct (P := P) w d t _ _ (by rw [hf]; exact hu) (by simpa using hst), hf]
            have sub : ∀ (zs : List IV) (vs : Array Value), zs.length = l.length → CellsAt J S zs vs off → CellsAt J S zs (vs.extract off (off + l.length)) 0 := by
              intro zs vs hz hc k x hk
              obtain ⟨u, hu1, hv⟩ := hc k x hk
              have hkl : k < zs.length := by
                rcases Nat.lt_or_ge k zs.length with h | h
                · exact h
                · simp [List.getElem?_eq_none h] at hk
              refine ⟨u, ?_, hv⟩
              rw [Array.getElem?_extract]
              have hlt : off + k < vs.size := by
                rcases Nat.lt_or_ge (off + k) vs.size with h | h
                · exact h
                · simp [Array.getElem?_eq_none h] at hu1
              rw [if_pos (by omega)]
              simpa using hu1
            exact eqFields_run (fun t sh ht => flat_eq n t sh ht) d (by omega) _ _ J S w fs.toList 0 l xs ys b hl (sub xs us hlen.1 hx) (sub ys us' hlen.2 hy) he
          · cases h
        · cases h
    · have hna : ∀ d', P.underlying t = some d' → flatShape P (n + 1) t = some sh → aggD d' = false ∧ sh.length = 1 := by
        intro d' hd' hsh
        rw [flatShape] at hsh
        simp only [hd'] at hsh
        cases d' <;> simp at hsh
        case struct fs => exact absurd ⟨fs, hd'⟩ hst
        case array k e => exact absurd ⟨k, e, hd'⟩ har
        all_goals (subst hsh; exact ⟨rfl, rfl⟩)
      have hund : ∃ d', P.underlying t = some d' := by
        rw [flatShape] at h
        cases hu : P.underlying t with
        | none => simp [hu] at h
        | some d' => exact ⟨d', rfl⟩
      obtain ⟨d', hu⟩ := hund
      obtain ⟨ha, hl1⟩ := hna d' hu h
      obtain ⟨k, rfl⟩ : ∃ k, sh = [k] := by
        match sh, hl1 with
        | [k], _ => exact ⟨k, rfl⟩
      have hlen := yW _ _ _ _ he
      obtain ⟨x, rfl⟩ : ∃ x, xs = [x] := by
        match xs, hlen.1 with
        | [x], _ => exact ⟨x, rfl⟩
      obtain ⟨y, rfl⟩ : ∃ y, ys = [y] := by
        match ys, hlen.2 with
        | [y], _ => exact ⟨y, rfl⟩
      obtain ⟨u, hu1, hv1⟩ := hx 0 x rfl
      obtain ⟨u', hu2, hv2⟩ := hy 0 y rfl
      have hp : ∀ (vs : Array Value) (z : Value), vs[off + 0]? = some z → (part t vs off).run P w = .ok z w := by
        intro vs z hz
        simp only [Nat.add_zero] at hz
        simp only [part, Sem.run_bind, ym hu, ha, Result.andThen_ok, Bool.false_eq_true, if_false, hz, Sem.run_pure]
      refine ⟨u, u', hp us u hu1, hp us' u' hu2, ?_⟩
      simp only [eqCells] at he
      split at he
      · cases he
      · rename_i b0 h0
        simp at he
        subst he
        exact run_eq1 h (fun fs hfs => hst ⟨fs, hfs⟩) (fun k e hke => har ⟨k, e, hke⟩) h0 hv1 hv2 w
theorem yx {P : Program} (op : BinOp) (t : TypeId) (x y : Operand) (u u' : Value) (hn : u ≠ .nilIface ∨ u' ≠ .nilIface) (ha : ∀ c c', u = .agg c → u' = .agg c' → False) (w : World) :
    (eqGuard op t x y u u').run P w = .ok () w := by
  cases op <;> first
    | rfl
    | (simp only [eqGuard, Bool.not_true, Bool.false_eq_true, if_false]
       split
       · simp at hn
       · rename_i c c'; exact (ha c c' rfl rfl).elim
       · rfl)
section ends
variable {P : Program} {t : TypeId} {d : Nat} {w : World}
theorem eqv_nilp {e : TypeId} (h : P.underlying t = some (.pointer e)) (b : Option Addr) : (Op.equalIn (d + 1) t (.pointer none) (.pointer b)).run P w = .ok b.isNone w := by
  simp [Op.equalIn, run_underlying h]
theorem eqv_ptr {e : TypeId} (h : P.underlying t = some (.pointer e)) (a : Addr) : (Op.equalIn (d + 1) t (.pointer (some a)) (.pointer none)).run P w = .ok false w := by
  simp [Op.equalIn, run_underlying h]
theorem eqv_nils {e : TypeId} (h : P.underlying t = some (.slice e)) (b : Option Addr) (n c m k : Nat) : (Op.equalIn (d + 1) t (.slice none n c) (.slice b m k)).run P w = .ok b.isNone w := by
  simp [Op.equalIn, run_underlying h]
theorem eqv_sl {e : TypeId} (h : P.underlying t = some (.slice e)) (a : Addr) (n c m k : Nat) : (Op.equalIn (d + 1) t (.slice (some a) n c) (.slice none m k)).run P w = .ok false w := by
  simp [Op.equalIn, run_underlying h]
theorem eqv_ff {x y : Array TypeId} {z : Bool} (h : P.underlying t = some (.func x y z)) : (Op.equalIn (d + 1) t .nilFunc .nilFunc).run P w = .ok true w := by
  simp [Op.equalIn, run_underlying h]
theorem eqv_f1 {x y : Array TypeId} {z : Bool} (h : P.underlying t = some (.func x y z)) (f : Fn) (a b : Array Value) : (Op.equalIn (d + 1) t (.func f a b) .nilFunc).run P w = .ok false w := by
  simp [Op.equalIn, run_underlying h]
theorem eqv_f2 {x y : Array TypeId} {z : Bool} (h : P.underlying t = some (.func x y z)) (f : Fn) (a b : Array Value) : (Op.equalIn (d + 1) t .nilFunc (.func f a b)).run P w = .ok false w := by
  simp [Op.equalIn, run_underlying h]
theorem eqv_ii {m : Array (String × TypeId)} (h : P.underlying t = some (.interface m)) : (Op.equalIn (d + 1) t .nilIface .nilIface).run P w = .ok true w := by
  simp [Op.equalIn, run_underlying h]
theorem eqv_i1 {m : Array (String × TypeId)} (h : P.underlying t = some (.interface m)) (q : TypeId) (v : Value) : (Op.equalIn (d + 1) t (.iface q v) .nilIface).run P w = .ok false w := by
  simp [Op.equalIn, run_underlying h]
theorem eqv_i2 {m : Array (String × TypeId)} (h : P.underlying t = some (.interface m)) (q : TypeId) (v : Value) : (Op.equalIn (d + 1) t .nilIface (.iface q v)).run P w = .ok false w := by
  simp [Op.equalIn, run_underlying h]
end ends
theorem run_eqGuard_const {P : Program} (op : BinOp) (t : TypeId) (x y : Operand) (hy : (y matches .const _) = true) (w : World) : (eqGuard op t x y .nilIface .nilIface).run P w = .ok () w := by
  cases y <;> simp at hy
  cases op <;> simp [eqGuard]
theorem ieqO_sound {P : Program} {t : TypeId} {C : TC} (hC : tc P t = some C) {x y : IV} {yc b : Bool} (h : ieqO C x y yc = some b) {ox oy : Operand} (hyc : yc = true → (oy matches .const _) = true) {J : Inj} {S : Sure} {u u' : Value}
    (hx : VR J S x u) (hy : VR J S y u') (w : World) : (∀ op, (eqGuard op t ox oy u u').run P w = .ok () w) ∧ (Op.equal t u u').run P w = .ok b w ∧
      (binOp .eql t u u' = (do pure (.bool (← Op.equal t u u'))) ∧ binOp .neq t u u' = (do pure (.bool (!(← Op.equal t u u'))))) := by
  obtain ⟨i, d, hinf, hu, hsz, hby, hag, hzero, hkd, hflat⟩ := zZ hC
  have g1 : (u ≠ .nilIface ∨ u' ≠ .nilIface) → (∀ c c', u = .agg c → u' = .agg c' → False) → ∀ op, (eqGuard op t ox oy u u').run P w = .ok () w :=
    fun h1 h2 op => yx op t ox oy u u' h1 h2 w
  unfold ieqO at h
  split at h
  case h_17 =>
    split at h
    · rename_i sh hs
      split at h
      · rename_i ha
        obtain ⟨f1, f2⟩ := hflat sh hs
        cases hx with
        | agg hl1 hV1 =>
          cases hy with
          | agg hl2 hV2 =>
            rename_i us us'
            refine ⟨fun op => ?_, ?_, ⟨rfl, rfl⟩⟩
            · exact run_eqGuard_agg w op t ox oy us us' f1
            · have hlen := yW _ _ _ _ h
              have c1 : CellsAt J S _ us 0 := fun k x hk => by
                have hk' : k < us.size := by
                  rw [← hl1]
                  exact (List.getElem?_eq_some_iff.1 hk).1
                exact ⟨us[k], by simp [hk'], hV1 k x us[k] hk (by simp [hk'])⟩
              have c2 : CellsAt J S _ us' 0 := fun k x hk => by
                have hk' : k < us'.size := by
                  rw [← hl2]
                  exact (List.getElem?_eq_some_iff.1 hk).1
                exact ⟨us'[k], by simp [hk'], hV2 k x us'[k] hk (by simp [hk'])⟩
              obtain ⟨q, q', e1, e2, e3⟩ := flat_eq 8 t sh f2 10000 (by omega) us us' 0 _ _ b J S c1 c2 h w
              have hsh : szOf P t = sh.length ∧ aggD d = true := by
                refine ⟨?_, by rw [hag]; exact ha⟩
                rw [← hag] at ha
                rw [flatShape] at f2
                simp only [hu] at f2
                cases d <;> simp [aggD] at ha <;> simp at f2
                · split at f2
                  · split at f2
                    · rename_i hz; cases f2; simp [hz.2.1]
                    · cases f2
                  · cases f2
                · obtain ⟨_, f2⟩ := f2
                  split at f2
                  · split at f2
                    · rename_i hz; cases f2; exact hz
                    · cases f2
                  · cases f2
              have hp : ∀ vs : Array Value, vs.size = sh.length → (part t vs 0).run P w = .ok (.agg vs) w := by
                intro vs hvs
                simp only [part, Sem.run_bind, ym hu, hsh.2, Result.andThen_ok, if_true, yF (zw hu), hsh.1, Sem.run_pure, Nat.zero_add, ← hvs, Array.extract_size]
              rw [hp us (by rw [← hl1, hlen.1])] at e1
              rw [hp us' (by rw [← hl2, hlen.2])] at e2
              cases e1; cases e2
              exact e3
      · cases h
    · cases h
  all_goals first
    | (cases h; done)
    | (split at h
       · rename_i hk
         rw [hk] at hkd
         first
         | (have hd := kd_bool hkd; subst hd; cases h; cases hx; cases hy
            exact ⟨g1 (.inl (by simp)) (by simp), run_equal_bool w t _ _ hu, rfl, rfl⟩)
         | (have hd := kd_pointer hkd; subst hd; cases h; cases hx; cases hy
            exact ⟨g1 (.inl (by simp)) (by simp), by first | exact eqv_nilp hu _ | exact eqv_ptr hu _, rfl, rfl⟩)
         | (have hd := yK hkd; subst hd; cases h; cases hx; cases hy
            exact ⟨g1 (.inl (by simp)) (by simp), by first | exact eqv_nils hu _ _ _ _ _ | exact eqv_sl hu _ _ _ _ _, rfl, rfl⟩)
         | (obtain ⟨_, _, _, hd⟩ := kd_func hkd; subst hd; cases h; cases hx; cases hy
            exact ⟨g1 (.inl (by simp)) (by simp), by first | exact eqv_ff hu | exact eqv_f1 hu _ _ _ | exact eqv_f2 hu _ _ _, rfl, rfl⟩)
         | (obtain ⟨_, hd⟩ := kd_iface hkd; subst hd; cases h; cases hx; cases hy
            exact ⟨g1 (by simp) (by simp), by first | exact eqv_i1 hu _ _ | exact eqv_i2 hu _ _, rfl, rfl⟩)
         | (obtain ⟨_, hd⟩ := kd_iface hkd; subst hd
            split at h
            · rename_i hyc'
              cases h; cases hx; cases hy
              exact ⟨fun op => run_eqGuard_const op t ox oy (hyc hyc') w, eqv_ii hu, rfl, rfl⟩
            · cases h)
       · cases h)
theorem bin_sound {P : Program} {op : BinOp} {t : TypeId} {ox oy : Operand} {x y : IV} {v : IV} {yc : Bool} (h : ibin P op t x y yc = some v) (hyc : yc = true → (oy matches .const _) = true) {J : Inj} {S : Sure} {u u' : Value}
    (hx : VR J S x u) (hy : VR J S y u') (w : World) : ∃ r, (do eqGuard op t ox oy u u'; binOp op t u u' : Sem Value).run P w = .ok r w ∧ VR J S v r := by
  by_cases hi : (∃ k a k' b, x = .int k a ∧ y = .int k' b)
  · obtain ⟨k, a, k', b, rfl, rfl⟩ := hi
    cases hx; cases hy
    obtain ⟨r, h1, h2⟩ := bin_int h w
    refine ⟨r, ?_, h2 J S⟩
    simp only [Sem.run_bind, yx (P := P) op t ox oy (.int k a) (.int k' b) (.inl (by simp)) (by simp) w, Result.andThen_ok, h1]
  · by_cases hs : (∃ a b, x = .str a ∧ y = .str b)
    · obtain ⟨a, b, rfl, rfl⟩ := hs
      cases hx; cases hy
      obtain ⟨r, h1, h2⟩ := bin_str h w
      refine ⟨r, ?_, h2 J S⟩
      simp only [Sem.run_bind, yx (P := P) op t ox oy (.string a) (.string b) (.inl (by simp)) (by simp) w, Result.andThen_ok, h1]
    · unfold ibin at h
      split at h
      · exact absurd ⟨_, _, _, _, rfl, rfl⟩ hi
      · exact absurd ⟨_, _, rfl, rfl⟩ hs
      · split at h
        · cases h
        · rename_i C hC
          obtain ⟨i, d, hinf, hu, hsz, hby, hag, hzero, hkd, hflat⟩ := zZ hC
          have main : ∀ (b : Bool), (eqGuard op t ox oy u u').run P w = .ok () w → (Op.equal t u u').run P w = .ok b w →
              (binOp .eql t u u' = (do pure (.bool (← Op.equal t u u'))) ∧ binOp .neq t u u' = (do pure (.bool (!(← Op.equal t u u'))))) →
              ∀ v, (match op, some b with | .eql, some b => some (IV.bool b) | .neq, some b => some (IV.bool !b) | _, _ => none) = some v →
              ∃ r, (do eqGuard op t ox oy u u'; binOp op t u u' : Sem Value).run P w = .ok r w ∧ VR J S v r := by
            intro b hg he hb v hv
            cases op <;> simp at hv
            · subst hv; exact ⟨.bool b, by simp only [Sem.run_bind, hg, Result.andThen_ok, hb.1, he, Sem.run_pure], .bool b⟩
            · subst hv; exact ⟨.bool !b, by simp only [Sem.run_bind, hg, Result.andThen_ok, hb.2, he, Sem.run_pure], .bool _⟩
          cases hr : ieqO C x y yc with
          | none => rw [hr] at h; cases op <;> simp at h
          | some b =>
            rw [hr] at h
            obtain ⟨e1, e2, e3⟩ := ieqO_sound (ox := ox) (oy := oy) hC hr hyc hx hy w
            exact main b (e1 op) e2 e3 v h
end Go.Proofs.Ytoojnagdenoknaa.IL
