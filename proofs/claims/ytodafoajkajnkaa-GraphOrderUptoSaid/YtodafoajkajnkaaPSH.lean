/- What a law is given: cells of the right shape are those of a value. Printed by types.py. -/
import Derived.Test.YtodafoajkajnkaaPE
import Derived.Test.YtodafoajkajnkaaPSH0
set_option linter.unusedVariables false
set_option linter.unusedSimpArgs false
set_option maxRecDepth 100000
namespace Go.Proofs.Ytodafoajkajnkaa.IL
open Go Go.RowKit PL

theorem sh_Rg (n : Nat) (r : List IV) (h : Shape Try.prog n 84 r) : ∃ x, r = eRg x ∧ wRg x := by
  cases n with
  | zero => exact h.elim
  | succ n =>
    simp only [Shape, Try.underlying84, ShapeF] at h
    obtain ⟨a0, b0, rfl, h0, a1, b1, rfl, h1, rfl⟩ := h
    obtain ⟨x0, rfl, w0⟩ := sh_int64 (P := Try.prog) Try.underlying3 h0
    obtain ⟨x1, rfl, w1⟩ := sh_int64 (P := Try.prog) Try.underlying3 h1
    exact ⟨⟨x0, x1⟩, by simp [eRg, eBool, eStr, eInt, eI, eS, eA2], ⟨w0, w1⟩⟩
theorem bk_Rg (x : Rg) : bkL (eRg x) = 1 + 1 := by
  simp [eRg, bkL, bk, eBool, eStr, eInt, eI, eS, eA2, Nat.add_assoc] <;> omega
theorem sh_Opd (n : Nat) (r : List IV) (h : Shape Try.prog n 58 r) : ∃ x, r = eOpd x ∧ wOpd x := by
  cases n with
  | zero => exact h.elim
  | succ n =>
    simp only [Shape, Try.underlying58, ShapeF] at h
    obtain ⟨a0, b0, rfl, h0, a1, b1, rfl, h1, a2, b2, rfl, h2, a3, b3, rfl, h3, rfl⟩ := h
    obtain ⟨x0, rfl, w0⟩ := sh_int64 (P := Try.prog) Try.underlying3 h0
    obtain ⟨x1, rfl, w1⟩ := sh_int64 (P := Try.prog) Try.underlying3 h1
    obtain ⟨x2, rfl, w2⟩ := sh_int64 (P := Try.prog) Try.underlying3 h2
    obtain ⟨x3, rfl, w3⟩ := sh_int64 (P := Try.prog) Try.underlying3 h3
    exact ⟨⟨x0, x1, x2, x3⟩, by simp [eOpd, eBool, eStr, eInt, eI, eS, eA2], ⟨w0, w1, w2, w3⟩⟩
theorem bk_Opd (x : Opd) : bkL (eOpd x) = 1 + 1 + 1 + 1 := by
  simp [eOpd, bkL, bk, eBool, eStr, eInt, eI, eS, eA2, Nat.add_assoc] <;> omega
theorem sh_Ins (n : Nat) (r : List IV) (h : Shape Try.prog n 66 r) : ∃ x, r = eIns x ∧ wIns x := by
  cases n with
  | zero => exact h.elim
  | succ n =>
    simp only [Shape, Try.underlying66, ShapeF] at h
    obtain ⟨a0, b0, rfl, h0, a1, b1, rfl, h1, a2, b2, rfl, h2, a3, b3, rfl, h3, a4, b4, rfl, h4, a5, b5, rfl, h5, a6, b6, rfl, h6, rfl⟩ := h
    obtain ⟨x0, rfl, w0⟩ := sh_int64 (P := Try.prog) Try.underlying3 h0
    obtain ⟨x1, rfl, w1⟩ := sh_Opd _ _ h1
    obtain ⟨x2, rfl, w2⟩ := sh_slice (P := Try.prog) Try.underlying23 (f := eOpd) (fun n r h => sh_Opd _ _ h) h2
    obtain ⟨x3, rfl, w3⟩ := sh_str (P := Try.prog) Try.underlying9 h3
    obtain ⟨x4, rfl, w4⟩ := sh_int64 (P := Try.prog) Try.underlying3 h4
    obtain ⟨x5, rfl, w5⟩ := sh_slice (P := Try.prog) Try.underlying64 (f := eStr) (fun n r h => sh_str (P := Try.prog) Try.underlying9 h) h5
    obtain ⟨x6, rfl, w6⟩ := sh_slice (P := Try.prog) Try.underlying37 (f := eInt) (fun n r h => sh_int64 (P := Try.prog) Try.underlying3 h) h6
    exact ⟨⟨x0, x1, x2, x3, x4, x5, x6⟩, by simp [eIns, eOpd, eBool, eStr, eInt, eI, eS, eA2], ⟨w0, w1, w2, w4, w6⟩⟩
theorem bk_Ins (x : Ins) : bkL (eIns x) = 1 + bkL (eOpd x.dst) + bkL ((eS eOpd) x.args) + bkL (eStr x.name) + 1 + bkL ((eS eStr) x.labels) + bkL ((eS eInt) x.cases) := by
  simp [eIns, eOpd, bkL, bk, eBool, eStr, eInt, eI, eS, eA2, Nat.add_assoc] <;> omega
theorem sh_Bl (n : Nat) (r : List IV) (h : Shape Try.prog n 63 r) : ∃ x, r = eBl x ∧ wBl x := by
  cases n with
  | zero => exact h.elim
  | succ n =>
    simp only [Shape, Try.underlying63, ShapeF] at h
    obtain ⟨a0, b0, rfl, h0, a1, b1, rfl, h1, a2, b2, rfl, h2, a3, b3, rfl, h3, rfl⟩ := h
    obtain ⟨x0, rfl, w0⟩ := sh_str (P := Try.prog) Try.underlying9 h0
    obtain ⟨x1, rfl, w1⟩ := sh_bool (P := Try.prog) Try.underlying4 h1
    obtain ⟨x2, rfl, w2⟩ := sh_slice (P := Try.prog) Try.underlying23 (f := eOpd) (fun n r h => sh_Opd _ _ h) h2
    obtain ⟨x3, rfl, w3⟩ := sh_slice (P := Try.prog) Try.underlying61 (f := eIns) (fun n r h => sh_Ins _ _ h) h3
    exact ⟨⟨x0, x1, x2, x3⟩, by simp [eBl, eBool, eStr, eInt, eI, eS, eA2], ⟨w2, w3⟩⟩
theorem bk_Bl (x : Bl) : bkL (eBl x) = bkL (eStr x.label) + 1 + bkL ((eS eOpd) x.ins) + bkL ((eS eIns) x.code) := by
  simp [eBl, bkL, bk, eBool, eStr, eInt, eI, eS, eA2, Nat.add_assoc] <;> omega
theorem sh_Fnc (n : Nat) (r : List IV) (h : Shape Try.prog n 26 r) : ∃ x, r = eFnc x ∧ wFnc x := by
  cases n with
  | zero => exact h.elim
  | succ n =>
    simp only [Shape, Try.underlying26, ShapeF] at h
    obtain ⟨a0, b0, rfl, h0, a1, b1, rfl, h1, a2, b2, rfl, h2, a3, b3, rfl, h3, a4, b4, rfl, h4, rfl⟩ := h
    obtain ⟨x0, rfl, w0⟩ := sh_bool (P := Try.prog) Try.underlying4 h0
    obtain ⟨x1, rfl, w1⟩ := sh_str (P := Try.prog) Try.underlying9 h1
    obtain ⟨x2, rfl, w2⟩ := sh_slice (P := Try.prog) Try.underlying22 (f := eRg) (fun n r h => sh_Rg _ _ h) h2
    obtain ⟨x3, rfl, w3⟩ := sh_slice (P := Try.prog) Try.underlying23 (f := eOpd) (fun n r h => sh_Opd _ _ h) h3
    obtain ⟨x4, rfl, w4⟩ := sh_slice (P := Try.prog) Try.underlying24 (f := eBl) (fun n r h => sh_Bl _ _ h) h4
    exact ⟨⟨x0, x1, x2, x3, x4⟩, by simp [eFnc, eBool, eStr, eInt, eI, eS, eA2], ⟨w2, w3, w4⟩⟩
theorem bk_Fnc (x : Fnc) : bkL (eFnc x) = 1 + bkL (eStr x.name) + bkL ((eS eRg) x.regs) + bkL ((eS eOpd) x.params) + bkL ((eS eBl) x.blocks) := by
  simp [eFnc, bkL, bk, eBool, eStr, eInt, eI, eS, eA2, Nat.add_assoc] <;> omega
theorem sh_DIns (n : Nat) (r : List IV) (h : Shape Try.prog n 130 r) : ∃ x, r = eDIns x ∧ wDIns x := by
  cases n with
  | zero => exact h.elim
  | succ n =>
    simp only [Shape, Try.underlying130, ShapeF] at h
    obtain ⟨a0, b0, rfl, h0, a1, b1, rfl, h1, a2, b2, rfl, h2, a3, b3, rfl, h3, a4, b4, rfl, h4, rfl⟩ := h
    obtain ⟨x0, rfl, w0⟩ := sh_int (P := Try.prog) Try.underlying5 h0
    obtain ⟨x1, rfl, w1⟩ := sh_int (P := Try.prog) Try.underlying5 h1
    obtain ⟨x2, rfl, w2⟩ := sh_int (P := Try.prog) Try.underlying5 h2
    obtain ⟨x3, rfl, w3⟩ := sh_int (P := Try.prog) Try.underlying5 h3
    obtain ⟨x4, rfl, w4⟩ := sh_int (P := Try.prog) Try.underlying128 h4
    exact ⟨⟨x0, x1, x2, x3, x4⟩, by simp [eDIns, eBool, eStr, eInt, eI, eS, eA2], ⟨w0, w1, w2, w3, w4⟩⟩
theorem bk_DIns (x : DIns) : bkL (eDIns x) = 1 + 1 + 1 + 1 + 1 := by
  simp [eDIns, bkL, bk, eBool, eStr, eInt, eI, eS, eA2, Nat.add_assoc] <;> omega
theorem sh_DBl (n : Nat) (r : List IV) (h : Shape Try.prog n 122 r) : ∃ x, r = eDBl x ∧ wDBl x := by
  cases n with
  | zero => exact h.elim
  | succ n =>
    simp only [Shape, Try.underlying122, ShapeF] at h
    obtain ⟨a0, b0, rfl, h0, a1, b1, rfl, h1, a2, b2, rfl, h2, a3, b3, rfl, h3, a4, b4, rfl, h4, rfl⟩ := h
    obtain ⟨x0, rfl, w0⟩ := sh_slice (P := Try.prog) Try.underlying120 (f := eDIns) (fun n r h => sh_DIns _ _ h) h0
    obtain ⟨x1, rfl, w1⟩ := sh_int (P := Try.prog) Try.underlying5 h1
    obtain ⟨x2, rfl, w2⟩ := sh_int (P := Try.prog) Try.underlying5 h2
    obtain ⟨x3, rfl, w3⟩ := sh_int (P := Try.prog) Try.underlying5 h3
    obtain ⟨x4, rfl, w4⟩ := sh_int (P := Try.prog) Try.underlying5 h4
    exact ⟨⟨x0, x1, x2, x3, x4⟩, by simp [eDBl, eBool, eStr, eInt, eI, eS, eA2], ⟨w0, w1, w2, w3, w4⟩⟩
theorem bk_DBl (x : DBl) : bkL (eDBl x) = bkL ((eS eDIns) x.code) + 1 + 1 + 1 + 1 := by
  simp [eDBl, bkL, bk, eBool, eStr, eInt, eI, eS, eA2, Nat.add_assoc] <;> omega
theorem sh_Drf (n : Nat) (r : List IV) (h : Shape Try.prog n 54 r) : ∃ x, r = eDrf x ∧ wDrf x := by
  cases n with
  | zero => exact h.elim
  | succ n =>
    simp only [Shape, Try.underlying54, ShapeF] at h
    obtain ⟨a0, b0, rfl, h0, a1, b1, rfl, h1, a2, b2, rfl, h2, a3, b3, rfl, h3, rfl⟩ := h
    obtain ⟨x0, rfl, w0⟩ := sh_int (P := Try.prog) Try.underlying5 h0
    obtain ⟨x1, rfl, w1⟩ := sh_int (P := Try.prog) Try.underlying5 h1
    obtain ⟨x2, rfl, w2⟩ := sh_int (P := Try.prog) Try.underlying5 h2
    obtain ⟨x3, rfl, w3⟩ := sh_slice (P := Try.prog) Try.underlying52 (f := eDBl) (fun n r h => sh_DBl _ _ h) h3
    exact ⟨⟨x0, x1, x2, x3⟩, by simp [eDrf, eBool, eStr, eInt, eI, eS, eA2], ⟨w0, w1, w2, w3⟩⟩
theorem bk_Drf (x : Drf) : bkL (eDrf x) = 1 + 1 + 1 + bkL ((eS eDBl) x.blocks) := by
  simp [eDrf, bkL, bk, eBool, eStr, eInt, eI, eS, eA2, Nat.add_assoc] <;> omega
theorem sh_Tgt (n : Nat) (r : List IV) (h : Shape Try.prog n 90 r) : ∃ x, r = eTgt x ∧ wTgt x := by
  cases n with
  | zero => exact h.elim
  | succ n =>
    simp only [Shape, Try.underlying90, ShapeF] at h
    obtain ⟨a0, b0, rfl, h0, a1, b1, rfl, h1, a2, b2, rfl, h2, rfl⟩ := h
    obtain ⟨x0, rfl, w0⟩ := sh_arr (P := Try.prog) Try.underlying41 (f := eInt) (fun n r h => sh_int64 (P := Try.prog) Try.underlying3 h) h0
    obtain ⟨x1, rfl, w1⟩ := sh_arr (P := Try.prog) Try.underlying88 (f := eS eInt) (fun n r h => sh_slice (P := Try.prog) Try.underlying37 (f := eInt) (fun n r h => sh_int64 (P := Try.prog) Try.underlying3 h) h) h1
    obtain ⟨x2, rfl, w2⟩ := sh_int64 (P := Try.prog) Try.underlying3 h2
    exact ⟨⟨x0, x1, x2⟩, by simp [eTgt, eBool, eStr, eInt, eI, eS, eA2], ⟨w0.1, w0.2, w1.1, w1.2, w2⟩⟩
theorem bk_Tgt (x : Tgt) : bkL (eTgt x) = bkL ((eA2 eInt) x.regs) + bkL ((eA2 (eS eInt)) x.clobber) + 1 := by
  simp [eTgt, bkL, bk, eBool, eStr, eInt, eI, eS, eA2, Nat.add_assoc] <;> omega
theorem sh_Lc (n : Nat) (r : List IV) (h : Shape Try.prog n 134 r) : ∃ x, r = eLc x ∧ wLc x := by
  cases n with
  | zero => exact h.elim
  | succ n =>
    simp only [Shape, Try.underlying134, ShapeF] at h
    obtain ⟨a0, b0, rfl, h0, a1, b1, rfl, h1, a2, b2, rfl, h2, rfl⟩ := h
    obtain ⟨x0, rfl, w0⟩ := sh_int64 (P := Try.prog) Try.underlying3 h0
    obtain ⟨x1, rfl, w1⟩ := sh_int64 (P := Try.prog) Try.underlying3 h1
    obtain ⟨x2, rfl, w2⟩ := sh_int64 (P := Try.prog) Try.underlying3 h2
    exact ⟨⟨x0, x1, x2⟩, by simp [eLc, eBool, eStr, eInt, eI, eS, eA2], ⟨w0, w1, w2⟩⟩
theorem bk_Lc (x : Lc) : bkL (eLc x) = 1 + 1 + 1 := by
  simp [eLc, bkL, bk, eBool, eStr, eInt, eI, eS, eA2, Nat.add_assoc] <;> omega
theorem sh_Sg (n : Nat) (r : List IV) (h : Shape Try.prog n 155 r) : ∃ x, r = eSg x ∧ wSg x := by
  cases n with
  | zero => exact h.elim
  | succ n =>
    simp only [Shape, Try.underlying155, ShapeF] at h
    obtain ⟨a0, b0, rfl, h0, a1, b1, rfl, h1, a2, b2, rfl, h2, a3, b3, rfl, h3, rfl⟩ := h
    obtain ⟨x0, rfl, w0⟩ := sh_int64 (P := Try.prog) Try.underlying3 h0
    obtain ⟨x1, rfl, w1⟩ := sh_int64 (P := Try.prog) Try.underlying3 h1
    obtain ⟨x2, rfl, w2⟩ := sh_int64 (P := Try.prog) Try.underlying3 h2
    obtain ⟨x3, rfl, w3⟩ := sh_Lc _ _ h3
    exact ⟨⟨x0, x1, x2, x3⟩, by simp [eLc, eSg, eBool, eStr, eInt, eI, eS, eA2], ⟨w0, w1, w2, w3⟩⟩
theorem bk_Sg (x : Sg) : bkL (eSg x) = 1 + 1 + 1 + bkL (eLc x.loc) := by
  simp [eLc, eSg, bkL, bk, eBool, eStr, eInt, eI, eS, eA2, Nat.add_assoc] <;> omega
theorem sh_Al (n : Nat) (r : List IV) (h : Shape Try.prog n 93 r) : ∃ x, r = eAl x ∧ wAl x := by
  cases n with
  | zero => exact h.elim
  | succ n =>
    simp only [Shape, Try.underlying93, ShapeF] at h
    obtain ⟨a0, b0, rfl, h0, a1, b1, rfl, h1, rfl⟩ := h
    obtain ⟨x0, rfl, w0⟩ := sh_int64 (P := Try.prog) Try.underlying3 h0
    obtain ⟨x1, rfl, w1⟩ := sh_slice (P := Try.prog) Try.underlying91 (f := eSg) (fun n r h => sh_Sg _ _ h) h1
    exact ⟨⟨x0, x1⟩, by simp [eAl, eBool, eStr, eInt, eI, eS, eA2], ⟨w0, w1⟩⟩
theorem bk_Al (x : Al) : bkL (eAl x) = 1 + bkL ((eS eSg) x.segs) := by
  simp [eAl, bkL, bk, eBool, eStr, eInt, eI, eS, eA2, Nat.add_assoc] <;> omega
theorem sh_Unt (n : Nat) (r : List IV) (h : Shape Try.prog n 95 r) : ∃ x, r = eUnt x ∧ wUnt x := by
  cases n with
  | zero => exact h.elim
  | succ n =>
    simp only [Shape, Try.underlying95, ShapeF] at h
    obtain ⟨a0, b0, rfl, h0, a1, b1, rfl, h1, a2, b2, rfl, h2, a3, b3, rfl, h3, rfl⟩ := h
    obtain ⟨x0, rfl, w0⟩ := sh_Tgt _ _ h0
    obtain ⟨x1, rfl, w1⟩ := sh_Fnc _ _ h1
    obtain ⟨x2, rfl, w2⟩ := sh_bool (P := Try.prog) Try.underlying4 h2
    obtain ⟨x3, rfl, w3⟩ := sh_Al _ _ h3
    exact ⟨⟨x0, x1, x2, x3⟩, by simp [eAl, eFnc, eTgt, eUnt, eBool, eStr, eInt, eI, eS, eA2], ⟨w0, w1, w3⟩⟩
theorem bk_Unt (x : Unt) : bkL (eUnt x) = bkL (eTgt x.target) + bkL (eFnc x.func) + 1 + bkL (eAl x.alloc) := by
  simp [eAl, eFnc, eTgt, eUnt, bkL, bk, eBool, eStr, eInt, eI, eS, eA2, Nat.add_assoc] <;> omega
theorem sh_graph_Graph (n : Nat) (r : List IV) (h : Shape Try.prog n 108 r) : ∃ x, r = egraph_Graph x ∧ wgraph_Graph x := by
  cases n with
  | zero => exact h.elim
  | succ n =>
    simp only [Shape, Try.underlying108, ShapeF] at h
    obtain ⟨a0, b0, rfl, h0, a1, b1, rfl, h1, rfl⟩ := h
    obtain ⟨x0, rfl, w0⟩ := sh_slice (P := Try.prog) Try.underlying31 (f := eS eInt) (fun n r h => sh_slice (P := Try.prog) Try.underlying37 (f := eInt) (fun n r h => sh_int64 (P := Try.prog) Try.underlying3 h) h) h0
    obtain ⟨x1, rfl, w1⟩ := sh_slice (P := Try.prog) Try.underlying31 (f := eS eInt) (fun n r h => sh_slice (P := Try.prog) Try.underlying37 (f := eInt) (fun n r h => sh_int64 (P := Try.prog) Try.underlying3 h) h) h1
    exact ⟨⟨x0, x1⟩, by simp [egraph_Graph, eBool, eStr, eInt, eI, eS, eA2], ⟨w0, w1⟩⟩
theorem bk_graph_Graph (x : graph_Graph) : bkL (egraph_Graph x) = bkL ((eS (eS eInt)) x.succ) + bkL ((eS (eS eInt)) x.pred) := by
  simp [egraph_Graph, bkL, bk, eBool, eStr, eInt, eI, eS, eA2, Nat.add_assoc] <;> omega
theorem sh_bits_Set (n : Nat) (r : List IV) (h : Shape Try.prog n 117 r) : ∃ x, r = ebits_Set x ∧ wbits_Set x := by
  cases n with
  | zero => exact h.elim
  | succ n =>
    simp only [Shape, Try.underlying117, ShapeF] at h
    obtain ⟨a0, b0, rfl, h0, a1, b1, rfl, h1, rfl⟩ := h
    obtain ⟨x0, rfl, w0⟩ := sh_int64 (P := Try.prog) Try.underlying3 h0
    obtain ⟨x1, rfl, w1⟩ := sh_slice (P := Try.prog) Try.underlying115 (f := eI .u64) (fun n r h => sh_int (P := Try.prog) Try.underlying114 h) h1
    exact ⟨⟨x0, x1⟩, by simp [ebits_Set, eBool, eStr, eInt, eI, eS, eA2], ⟨w0, w1⟩⟩
theorem bk_bits_Set (x : bits_Set) : bkL (ebits_Set x) = 1 + bkL ((eS (eI .u64)) x.words) := by
  simp [ebits_Set, bkL, bk, eBool, eStr, eInt, eI, eS, eA2, Nat.add_assoc] <;> omega
theorem sh_dyehouseref12_maker (n : Nat) (r : List IV) (h : Shape Try.prog n 125 r) : ∃ x, r = edyehouseref12_maker x ∧ wdyehouseref12_maker x := by
  cases n with
  | zero => exact h.elim
  | succ n =>
    simp only [Shape, Try.underlying125, ShapeF] at h
    obtain ⟨a0, b0, rfl, h0, a1, b1, rfl, h1, a2, b2, rfl, h2, rfl⟩ := h
    obtain ⟨x0, rfl, w0⟩ := sh_Fnc _ _ h0
    obtain ⟨x1, rfl, w1⟩ := sh_arr (P := Try.prog) Try.underlying88 (f := eS eInt) (fun n r h => sh_slice (P := Try.prog) Try.underlying37 (f := eInt) (fun n r h => sh_int64 (P := Try.prog) Try.underlying3 h) h) h1
    obtain ⟨x2, rfl, w2⟩ := sh_slice (P := Try.prog) Try.underlying37 (f := eInt) (fun n r h => sh_int64 (P := Try.prog) Try.underlying3 h) h2
    exact ⟨⟨x0, x1, x2⟩, by simp [eFnc, edyehouseref12_maker, eBool, eStr, eInt, eI, eS, eA2], ⟨w0, w1.1, w1.2, w2⟩⟩
theorem bk_dyehouseref12_maker (x : dyehouseref12_maker) : bkL (edyehouseref12_maker x) = bkL (eFnc x.f) + bkL ((eA2 (eS eInt)) x.ids) + bkL ((eS eInt) x.has) := by
  simp [eFnc, edyehouseref12_maker, bkL, bk, eBool, eStr, eInt, eI, eS, eA2, Nat.add_assoc] <;> omega
theorem sh_dom_Tree (n : Nat) (r : List IV) (h : Shape Try.prog n 182 r) : ∃ x, r = edom_Tree x ∧ wdom_Tree x := by
  cases n with
  | zero => exact h.elim
  | succ n =>
    simp only [Shape, Try.underlying182, ShapeF] at h
    obtain ⟨a0, b0, rfl, h0, a1, b1, rfl, h1, rfl⟩ := h
    obtain ⟨x0, rfl, w0⟩ := sh_slice (P := Try.prog) Try.underlying37 (f := eInt) (fun n r h => sh_int64 (P := Try.prog) Try.underlying3 h) h0
    obtain ⟨x1, rfl, w1⟩ := sh_slice (P := Try.prog) Try.underlying37 (f := eInt) (fun n r h => sh_int64 (P := Try.prog) Try.underlying3 h) h1
    exact ⟨⟨x0, x1⟩, by simp [edom_Tree, eBool, eStr, eInt, eI, eS, eA2], ⟨w0, w1⟩⟩
theorem bk_dom_Tree (x : dom_Tree) : bkL (edom_Tree x) = bkL ((eS eInt) x.idom) + bkL ((eS eInt) x.order) := by
  simp [edom_Tree, bkL, bk, eBool, eStr, eInt, eI, eS, eA2, Nat.add_assoc] <;> omega
end Go.Proofs.Ytodafoajkajnkaa.IL
