/- The ideal logic, part 2: types in short, and operations on numbers, bools, strings and what is compared. Nothing here speaks of a given program. -/
import Derived.Test.YtoojnagdenoknaaIL1
import Derived.Laws.StructEq
import Derived.Laws.Entries
import Derived.Laws.Small
set_option linter.unusedSectionVars false
set_option linter.unnecessarySimpa false
set_option linter.unusedVariables false
set_option linter.unusedSimpArgs false
namespace Go.Proofs.Ytoojnagdenoknaa.IL
open Go Go.RowKit
inductive SK where
  | b | i | s
inductive KD where
  | other
  | bool
  | int (k : IntKind)
  | string
  | pointer (e : TypeId)
  | slice (e : TypeId)
  | array (n : Nat) (e : TypeId)
  | struct (fs : List (Nat × Nat × Bool))
  | map (k v : TypeId)
  | func
  | iface
structure TC where
  size : Nat
  bytes : Nat
  agg : Bool
  zero : Option (List IV)
  flat : Option (List SK)
  kd : KD
def szOf (P : Program) (t : TypeId) : Nat := match P.info? t with | some i => i.size | none => 0
def aggD : TypeDesc → Bool
  | .struct _ | .array _ _ => true
  | _ => false
def aggOf (P : Program) (t : TypeId) : Bool := match P.underlying t with | some d => aggD d | none => false
def kdOf (P : Program) : TypeDesc → KD
  | .bool => .bool
  | .int k => .int k
  | .string => .string
  | .pointer e => .pointer e
  | .slice e => .slice e
  | .array n e => .array n e
  | .struct fs => .struct (fs.toList.map fun f => (f.offset, szOf P f.type, aggOf P f.type))
  | .map k v => .map k v
  | .func .. => .func
  | .interface _ => .iface
  | _ => .other
def flatFields (shape : TypeId → Option (List SK)) : Nat → List Field → Option (List SK)
  | _, [] => some []
  | off, f :: fs => if f.name = "_" then none else if f.offset ≠ off then none else
    match shape f.type with
    | none => none
    | some l => match flatFields shape (off + l.length) fs with
      | none => none
      | some r => some (l ++ r)
def flatShape (P : Program) : Nat → TypeId → Option (List SK)
  | 0, _ => none
  | n + 1, t => match P.underlying t with
    | some .bool => some [.b]
    | some (.int _) => some [.i]
    | some .string => some [.s]
    | some (.struct fs) => if P.stoodInHeld t then none else
      match flatFields (flatShape P n) 0 fs.toList with
      | some l => if szOf P t = l.length then some l else none
      | none => none
    | some (.array k e) => match flatShape P n e with
      | some l => if szOf P e = l.length ∧ szOf P t = k * l.length ∧ (P.info? e).isSome = true then some (List.replicate k l).flatten else none
      | none => none
    | _ => none
def tc (P : Program) (t : TypeId) : Option TC :=
  match P.info? t, P.underlying t with
  | some i, some d => some { size := i.size, bytes := i.bytes, agg := aggD d, zero := i.zero.map fun z => z.cells.toList.map ofConst, flat := if P.eqGuardType P.depth t then none else flatShape P 8 t, kd := kdOf P d }
  | _, _ => none
theorem zZ {P : Program} {t : TypeId} {C : TC} (h : tc P t = some C) : ∃ i d, P.info? t = some i ∧ P.underlying t = some d ∧ i.size = C.size ∧ i.bytes = C.bytes ∧ aggD d = C.agg ∧
    (∀ zs, C.zero = some zs → ∃ z, i.zero = some z ∧ zs = z.cells.toList.map ofConst) ∧ kdOf P d = C.kd ∧ (∀ sh, C.flat = some sh → P.eqGuardType P.depth t = false ∧ flatShape P 8 t = some sh) := by
  unfold tc at h
  split at h
  · rename_i i d hi hd
    simp only [Option.some.injEq] at h
    subst h
    refine ⟨i, d, hi, hd, rfl, rfl, rfl, fun zs hz => ?_, rfl, fun sh hs => ?_⟩
    · simp only [Option.map_eq_some_iff] at hz
      obtain ⟨z, h1, h2⟩ := hz
      exact ⟨z, h1, h2.symm⟩
    · simp only at hs
      split at hs
      · cases hs
      · rename_i hg; exact ⟨by simpa using hg, hs⟩
  · cases h
section kd
variable {P : Program} {d : TypeDesc}
theorem kd_bool (h : kdOf P d = .bool) : d = .bool := by cases d <;> simp [kdOf] at h; rfl
theorem kd_int {k : IntKind} (h : kdOf P d = .int k) : d = .int k := by cases d <;> simp [kdOf] at h; subst h; rfl
theorem kM (h : kdOf P d = .string) : d = .string := by cases d <;> simp [kdOf] at h; rfl
theorem kd_pointer {e : TypeId} (h : kdOf P d = .pointer e) : d = .pointer e := by cases d <;> simp [kdOf] at h; subst h; rfl
theorem yK {e : TypeId} (h : kdOf P d = .slice e) : d = .slice e := by cases d <;> simp [kdOf] at h; subst h; rfl
theorem kd_array {n : Nat} {e : TypeId} (h : kdOf P d = .array n e) : d = .array n e := by cases d <;> simp [kdOf] at h; obtain ⟨rfl, rfl⟩ := h; rfl
theorem kd_struct {l : List (Nat × Nat × Bool)} (h : kdOf P d = .struct l) : ∃ fs, d = .struct fs ∧ l = fs.toList.map fun f => (f.offset, szOf P f.type, aggOf P f.type) := by
  cases d <;> simp [kdOf] at h
  exact ⟨_, rfl, by simp [← h]⟩
theorem kd_func (h : kdOf P d = .func) : ∃ a b c, d = .func a b c := by cases d <;> simp [kdOf] at h; exact ⟨_, _, _, rfl⟩
theorem kd_iface (h : kdOf P d = .iface) : ∃ m, d = .interface m := by cases d <;> simp [kdOf] at h; exact ⟨_, rfl⟩
theorem kd_map {k v : TypeId} (h : kdOf P d = .map k v) : d = .map k v := by cases d <;> simp [kdOf] at h; obtain ⟨rfl, rfl⟩ := h; rfl
end kd
def eq1 : SK → IV → IV → Option Bool
  | .b, .bool x, .bool y => some (x == y)
  | .i, .int k x, .int k' y => if k = k' then some (x == y) else none
  | .s, .str x, .str y => some (x.toList == y.toList)
  | _, _, _ => none
def eqCells : List SK → List IV → List IV → Option Bool
  | [], [], [] => some true
  | k :: ks, x :: xs, y :: ys => match eq1 k x y with
    | none => none
    | some b => match eqCells ks xs ys with
      | none => none
      | some c => some (b && c)
  | _, _, _ => none
def ieqO (C : TC) (x y : IV) (yc : Bool) : Option Bool :=
  match x, y with
  | .bool a, .bool b => match C.kd with | .bool => some (a == b) | _ => none
  | .nilp, .nilp => match C.kd with | .pointer _ => some true | _ => none
  | .pb .., .nilp | .pim .., .nilp | .nilp, .pb .. | .nilp, .pim .. => match C.kd with | .pointer _ => some false | _ => none
  | .nils, .nils => match C.kd with | .slice _ => some true | _ => none
  | .sb .., .nils | .sime, .nils => match C.kd with | .slice _ => some false | _ => none
  | .sim (_ :: _) _, .nils => match C.kd with | .slice _ => some false | _ => none
  | .nilf, .nilf => match C.kd with | .func => some true | _ => none
  | .fn .., .nilf | .nilf, .fn .. => match C.kd with | .func => some false | _ => none
  | .nili, .nili => match C.kd with | .iface => if yc then some true else none | _ => none
  | .iface .., .nili | .nili, .iface .. => match C.kd with | .iface => some false | _ => none
  | .agg xs, .agg ys => match C.flat with | some sh => if C.agg then eqCells sh xs ys else none | none => none
  | _, _ => none
def ibin (P : Program) (op : BinOp) (t : TypeId) (x y : IV) (yc : Bool) : Option IV :=
  match x, y with
  | .int k a, .int k' b =>
    match op with
    | .shl => if b < 0 then none else some (.int k (k.wrap (a * 2 ^ (min b.toNat k.bits))))
    | .shr => if b < 0 then none else some (.int k (a.fdiv (2 ^ (min b.toNat k.bits))))
    | .add => if k = k' then some (.int k (k.wrap (a + b))) else none
    | .sub => if k = k' then some (.int k (k.wrap (a - b))) else none
    | .mul => if k = k' then some (.int k (k.wrap (a * b))) else none
    | .quo => if k = k' then (if b = 0 then none else some (.int k (k.wrap (a.tdiv b)))) else none
    | .rem => if k = k' then (if b = 0 then none else some (.int k (a.tmod b))) else none
    | .and => if k = k' then some (.int k (k.wrap (BitVec.ofInt k.bits a &&& BitVec.ofInt k.bits b).toNat)) else none
    | .or => if k = k' then some (.int k (k.wrap (BitVec.ofInt k.bits a ||| BitVec.ofInt k.bits b).toNat)) else none
    | .xor => if k = k' then some (.int k (k.wrap (BitVec.ofInt k.bits a ^^^ BitVec.ofInt k.bits b).toNat)) else none
    | .andNot => if k = k' then some (.int k (k.wrap (BitVec.ofInt k.bits a &&& ~~~BitVec.ofInt k.bits b).toNat)) else none
    | .eql => if k = k' then some (.bool (a == b)) else none
    | .neq => if k = k' then some (.bool (a != b)) else none
    | .lss => if k = k' then some (.bool (decide (a < b))) else none
    | .leq => if k = k' then some (.bool (decide (a ≤ b))) else none
    | .gtr => if k = k' then some (.bool (decide (a > b))) else none
    | .geq => if k = k' then some (.bool (decide (a ≥ b))) else none
  | .str a, .str b =>
    match op with
    | .add => if ((a.size + b.size : Nat) : Int) > IntKind.i64.max then none else some (.str (a ++ b))
    | .eql => some (.bool (a.toList == b.toList))
    | .neq => some (.bool !(a.toList == b.toList))
    | .lss => some (.bool (Op.bytesLess a.toList b.toList))
    | .leq => some (.bool (Op.bytesLess a.toList b.toList || a.toList == b.toList))
    | .gtr => some (.bool !(Op.bytesLess a.toList b.toList || a.toList == b.toList))
    | .geq => some (.bool !(Op.bytesLess a.toList b.toList))
    | _ => none
  | x, y =>
    match tc P t with
    | none => none
    | some C =>
      match op, ieqO C x y yc with
      | .eql, some b => some (.bool b)
      | .neq, some b => some (.bool !b)
      | _, _ => none
theorem bin_int {P : Program} {op : BinOp} {t : TypeId} {k k' : IntKind} {a b : Int} {yc : Bool} {v : IV} (h : ibin P op t (.int k a) (.int k' b) yc = some v) (w : World) :
    ∃ u, (binOp op t (.int k a) (.int k' b)).run P w = .ok u w ∧ ∀ J S, VR J S v u := by
  cases op <;> simp only [ibin] at h
  case shl =>
    split at h
    · cases h
    · rename_i hb; cases h; exact ⟨_, by simp [binOp, Op.shift, hb], fun _ _ => .int _ _⟩
  case shr =>
    split at h
    · cases h
    · rename_i hb; cases h; exact ⟨_, by simp [binOp, Op.shift, hb], fun _ _ => .int _ _⟩
  all_goals
    split at h
    · rename_i e; subst e
      first
      | (cases h; exact ⟨_, by first | (simp only [binOp, ne_eq, not_true, if_false, Op.intArith, Op.intBits, Op.intCmp]; rfl) | rfl, fun _ _ => by constructor⟩)
      | (split at h
         · cases h
         · rename_i hb; cases h; exact ⟨_, by first | (simp [binOp, Op.intDiv, hb]; done) | (simp [binOp, Op.intDiv, hb]; rfl), fun _ _ => by constructor⟩)
    · cases h
theorem bin_str {P : Program} {op : BinOp} {t : TypeId} {a b : ByteArray} {yc : Bool} {v : IV} (h : ibin P op t (.str a) (.str b) yc = some v) (w : World) :
    ∃ u, (binOp op t (.string a) (.string b)).run P w = .ok u w ∧ ∀ J S, VR J S v u := by
  cases op <;> simp only [ibin] at h
  case add =>
    split at h
    · cases h
    · rename_i hb; cases h
      refine ⟨.string (a ++ b), ?_, fun _ _ => .str _⟩
      simp only [binOp, Op.stringOp, if_neg hb]; rfl
  all_goals first
    | (cases h; done)
    | (cases h; exact ⟨_, rfl, fun _ _ => by constructor⟩)
theorem run_eq1 {P : Program} {t : TypeId} {n d : Nat} {k : SK} (hs : flatShape P (n + 1) t = some [k]) (hsc : ∀ fs, P.underlying t ≠ some (.struct fs)) (hsa : ∀ k e, P.underlying t ≠ some (.array k e)) {x y : IV} {u u' : Value} {b : Bool} (he : eq1 k x y = some b) {J : Inj} {S : Sure}
    (hx : VR J S x u) (hy : VR J S y u') (w : World) : (Op.equalIn (d + 1) t u u').run P w = .ok b w := by
  unfold flatShape at hs
  split at hs
  · rename_i hu
    cases hs
    cases x <;> cases y <;> simp [eq1] at he
    cases hx; cases hy; subst he
    exact run_equalIn_bool w d t _ _ hu
  · rename_i hu
    cases hs
    cases x <;> cases y <;> simp [eq1] at he
    obtain ⟨rfl, rfl⟩ := he
    cases hx; cases hy
    exact run_equalIn_int w d t _ _ _ _ hu
  · rename_i hu
    cases hs
    cases x <;> cases y <;> simp [eq1] at he
    cases hx; cases hy; subst he
    have h := run_equalIn_string (P := P) w d t
    rename_i a b
    have := h a b hu
    rw [this]
  · rename_i fs hu; exact absurd hu (hsc fs)
  · rename_i k e hu; exact absurd hu (hsa k e)
  · cases hs
end Go.Proofs.Ytoojnagdenoknaa.IL
