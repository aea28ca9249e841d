/- The cells of the program's data. Printed by types.py. -/
import Derived.Test.YtodafoajkajnkaaILT
import Derived.Test.YtodafoajkajnkaaPE0
import Derived.Test.YtodafoajkajnkaaPD
set_option linter.unusedVariables false
set_option linter.unusedSimpArgs false
set_option linter.defProp false
set_option maxRecDepth 100000
namespace Go.Proofs.Ytodafoajkajnkaa.IL
open Go Go.RowKit PL

def eRg (x : Rg) : List IV := [.int .i64 x.id, .int .i64 x.cls]
theorem cl_eRg (x : Rg) : Cl1 (eRg x) := (cl_cons (closed_int _ _) rfl (cl_cons (closed_int _ _) rfl cl_nil))
theorem sRg_0 (x : Rg) : (eRg x).length = 2 := rfl
theorem sRg_1 (x : Rg) : (eRg x)[0]? = some (.int .i64 x.id) := rfl
theorem sRg_2 (x : Rg) : (eRg x)[1]? = some (.int .i64 x.cls) := rfl
theorem sRg_3 (x : Rg) : ipart true 2 0 (eRg x) = some (.agg (eRg x)) := rfl
theorem sRg_4 (x : Rg) : (∀ v ∈ eRg x, v.one = true) = True := eq_true fun v h => (cl_eRg x v h).2
theorem sRg_5 (x : Rg) : ∀ o cs, splice (eRg x) o cs = splice [.int .i64 x.id, .int .i64 x.cls] o cs := fun _ _ => rfl
def sRg (x : Rg) := And.intro (sRg_0 x) (And.intro (sRg_1 x) (And.intro (sRg_2 x) (And.intro (sRg_3 x) (And.intro (sRg_4 x) (sRg_5 x)))))
theorem qcRg (a b : Rg) : eqCells [.i, .i] (eRg a) (eRg b) = some (decide (a = b)) := by
  refine (eqC_i (eqC_i eqC_n)).trans ?_
  congr 2
  rcases a with ⟨x0, x1⟩
  rcases b with ⟨y0, y1⟩
  simp [and_assoc]
def qRg {c : Bool} (a b : Rg) := q_agg (c := c) ty84 rfl rfl (qcRg a b)
def wRg (x : Rg) : Prop := (Lit.int .i64 x.id).wf = true ∧ (Lit.int .i64 x.cls).wf = true
def eOpd (x : Opd) : List IV := [.int .i64 x.kind, .int .i64 x.cls, .int .i64 x.n, .int .i64 x.tag]
theorem cl_eOpd (x : Opd) : Cl1 (eOpd x) := (cl_cons (closed_int _ _) rfl (cl_cons (closed_int _ _) rfl (cl_cons (closed_int _ _) rfl (cl_cons (closed_int _ _) rfl cl_nil))))
theorem sOpd_0 (x : Opd) : (eOpd x).length = 4 := rfl
theorem sOpd_1 (x : Opd) : (eOpd x)[0]? = some (.int .i64 x.kind) := rfl
theorem sOpd_2 (x : Opd) : (eOpd x)[1]? = some (.int .i64 x.cls) := rfl
theorem sOpd_3 (x : Opd) : (eOpd x)[2]? = some (.int .i64 x.n) := rfl
theorem sOpd_4 (x : Opd) : (eOpd x)[3]? = some (.int .i64 x.tag) := rfl
theorem sOpd_5 (x : Opd) : ipart true 4 0 (eOpd x) = some (.agg (eOpd x)) := rfl
theorem sOpd_6 (x : Opd) : (∀ v ∈ eOpd x, v.one = true) = True := eq_true fun v h => (cl_eOpd x v h).2
theorem sOpd_7 (x : Opd) : ∀ o cs, splice (eOpd x) o cs = splice [.int .i64 x.kind, .int .i64 x.cls, .int .i64 x.n, .int .i64 x.tag] o cs := fun _ _ => rfl
def sOpd (x : Opd) := And.intro (sOpd_0 x) (And.intro (sOpd_1 x) (And.intro (sOpd_2 x) (And.intro (sOpd_3 x) (And.intro (sOpd_4 x) (And.intro (sOpd_5 x) (And.intro (sOpd_6 x) (sOpd_7 x)))))))
theorem qcOpd (a b : Opd) : eqCells [.i, .i, .i, .i] (eOpd a) (eOpd b) = some (decide (a = b)) := by
  refine (eqC_i (eqC_i (eqC_i (eqC_i eqC_n)))).trans ?_
  congr 2
  rcases a with ⟨x0, x1, x2, x3⟩
  rcases b with ⟨y0, y1, y2, y3⟩
  simp [and_assoc]
def qOpd {c : Bool} (a b : Opd) := q_agg (c := c) ty58 rfl rfl (qcOpd a b)
def wOpd (x : Opd) : Prop := (Lit.int .i64 x.kind).wf = true ∧ (Lit.int .i64 x.cls).wf = true ∧ (Lit.int .i64 x.n).wf = true ∧ (Lit.int .i64 x.tag).wf = true
def eIns (x : Ins) : List IV := [.int .i64 x.op, .int .i64 x.dst.kind, .int .i64 x.dst.cls, .int .i64 x.dst.n, .int .i64 x.dst.tag, .sim (x.args.map eOpd) false, .str x.name, .int .i64 x.off, .sim (x.labels.map eStr) false, .sim (x.cases.map eInt) false]
theorem cl_eIns (x : Ins) : Cl1 (eIns x) := (cl_cons (closed_int _ _) rfl (cl_cons (closed_int _ _) rfl (cl_cons (closed_int _ _) rfl (cl_cons (closed_int _ _) rfl (cl_cons (closed_int _ _) rfl (cl_cons (cl_map cl_eOpd _) rfl (cl_cons (closed_str _) rfl (cl_cons (closed_int _ _) rfl (cl_cons (cl_map cl_eStr _) rfl (cl_cons (cl_map cl_eInt _) rfl cl_nil))))))))))
theorem sIns_0 (x : Ins) : (eIns x).length = 10 := rfl
theorem sIns_1 (x : Ins) : (eIns x)[0]? = some (.int .i64 x.op) := rfl
theorem sIns_2 (x : Ins) : (eIns x)[1]? = some (.int .i64 x.dst.kind) := rfl
theorem sIns_3 (x : Ins) : (eIns x)[2]? = some (.int .i64 x.dst.cls) := rfl
theorem sIns_4 (x : Ins) : (eIns x)[3]? = some (.int .i64 x.dst.n) := rfl
theorem sIns_5 (x : Ins) : (eIns x)[4]? = some (.int .i64 x.dst.tag) := rfl
theorem sIns_6 (x : Ins) : (eIns x)[5]? = some (.sim (x.args.map eOpd) false) := rfl
theorem sIns_7 (x : Ins) : (eIns x)[6]? = some (.str x.name) := rfl
theorem sIns_8 (x : Ins) : (eIns x)[7]? = some (.int .i64 x.off) := rfl
theorem sIns_9 (x : Ins) : (eIns x)[8]? = some (.sim (x.labels.map eStr) false) := rfl
theorem sIns_10 (x : Ins) : (eIns x)[9]? = some (.sim (x.cases.map eInt) false) := rfl
theorem sIns_11 (x : Ins) : ipart true 10 0 (eIns x) = some (.agg (eIns x)) := rfl
theorem sIns_12 (x : Ins) : ipart true 4 1 (eIns x) = some (.agg (eOpd x.dst)) := rfl
theorem sIns_13 (x : Ins) : (∀ v ∈ eIns x, v.one = true) = True := eq_true fun v h => (cl_eIns x v h).2
theorem sIns_14 (x : Ins) : ∀ o cs, splice (eIns x) o cs = splice [.int .i64 x.op, .int .i64 x.dst.kind, .int .i64 x.dst.cls, .int .i64 x.dst.n, .int .i64 x.dst.tag, .sim (x.args.map eOpd) false, .str x.name, .int .i64 x.off, .sim (x.labels.map eStr) false, .sim (x.cases.map eInt) false] o cs := fun _ _ => rfl
def sIns (x : Ins) := And.intro (sIns_0 x) (And.intro (sIns_1 x) (And.intro (sIns_2 x) (And.intro (sIns_3 x) (And.intro (sIns_4 x) (And.intro (sIns_5 x) (And.intro (sIns_6 x) (And.intro (sIns_7 x) (And.intro (sIns_8 x) (And.intro (sIns_9 x) (And.intro (sIns_10 x) (And.intro (sIns_11 x) (And.intro (sIns_12 x) (And.intro (sIns_13 x) (sIns_14 x))))))))))))))
def wIns (x : Ins) : Prop := (Lit.int .i64 x.op).wf = true ∧ wOpd x.dst ∧ (∀ y ∈ x.args, wOpd y) ∧ (Lit.int .i64 x.off).wf = true ∧ (∀ y ∈ x.cases, (Lit.int .i64 y).wf = true)
def eBl (x : Bl) : List IV := [.str x.label, .bool x.edge, .sim (x.ins.map eOpd) false, .sim (x.code.map eIns) false]
theorem cl_eBl (x : Bl) : Cl1 (eBl x) := (cl_cons (closed_str _) rfl (cl_cons (closed_bool _) rfl (cl_cons (cl_map cl_eOpd _) rfl (cl_cons (cl_map cl_eIns _) rfl cl_nil))))
theorem sBl_0 (x : Bl) : (eBl x).length = 4 := rfl
theorem sBl_1 (x : Bl) : (eBl x)[0]? = some (.str x.label) := rfl
theorem sBl_2 (x : Bl) : (eBl x)[1]? = some (.bool x.edge) := rfl
theorem sBl_3 (x : Bl) : (eBl x)[2]? = some (.sim (x.ins.map eOpd) false) := rfl
theorem sBl_4 (x : Bl) : (eBl x)[3]? = some (.sim (x.code.map eIns) false) := rfl
theorem sBl_5 (x : Bl) : ipart true 4 0 (eBl x) = some (.agg (eBl x)) := rfl
theorem sBl_6 (x : Bl) : (∀ v ∈ eBl x, v.one = true) = True := eq_true fun v h => (cl_eBl x v h).2
theorem sBl_7 (x : Bl) : ∀ o cs, splice (eBl x) o cs = splice [.str x.label, .bool x.edge, .sim (x.ins.map eOpd) false, .sim (x.code.map eIns) false] o cs := fun _ _ => rfl
def sBl (x : Bl) := And.intro (sBl_0 x) (And.intro (sBl_1 x) (And.intro (sBl_2 x) (And.intro (sBl_3 x) (And.intro (sBl_4 x) (And.intro (sBl_5 x) (And.intro (sBl_6 x) (sBl_7 x)))))))
def wBl (x : Bl) : Prop := (∀ y ∈ x.ins, wOpd y) ∧ (∀ y ∈ x.code, wIns y)
def eFnc (x : Fnc) : List IV := [.bool x.machine, .str x.name, .sim (x.regs.map eRg) false, .sim (x.params.map eOpd) false, .sim (x.blocks.map eBl) false]
theorem cl_eFnc (x : Fnc) : Cl1 (eFnc x) := (cl_cons (closed_bool _) rfl (cl_cons (closed_str _) rfl (cl_cons (cl_map cl_eRg _) rfl (cl_cons (cl_map cl_eOpd _) rfl (cl_cons (cl_map cl_eBl _) rfl cl_nil)))))
theorem sFnc_0 (x : Fnc) : (eFnc x).length = 5 := rfl
theorem sFnc_1 (x : Fnc) : (eFnc x)[0]? = some (.bool x.machine) := rfl
theorem sFnc_2 (x : Fnc) : (eFnc x)[1]? = some (.str x.name) := rfl
theorem sFnc_3 (x : Fnc) : (eFnc x)[2]? = some (.sim (x.regs.map eRg) false) := rfl
theorem sFnc_4 (x : Fnc) : (eFnc x)[3]? = some (.sim (x.params.map eOpd) false) := rfl
theorem sFnc_5 (x : Fnc) : (eFnc x)[4]? = some (.sim (x.blocks.map eBl) false) := rfl
theorem sFnc_6 (x : Fnc) : ipart true 5 0 (eFnc x) = some (.agg (eFnc x)) := rfl
theorem sFnc_7 (x : Fnc) : (∀ v ∈ eFnc x, v.one = true) = True := eq_true fun v h => (cl_eFnc x v h).2
theorem sFnc_8 (x : Fnc) : ∀ o cs, splice (eFnc x) o cs = splice [.bool x.machine, .str x.name, .sim (x.regs.map eRg) false, .sim (x.params.map eOpd) false, .sim (x.blocks.map eBl) false] o cs := fun _ _ => rfl
def sFnc (x : Fnc) := And.intro (sFnc_0 x) (And.intro (sFnc_1 x) (And.intro (sFnc_2 x) (And.intro (sFnc_3 x) (And.intro (sFnc_4 x) (And.intro (sFnc_5 x) (And.intro (sFnc_6 x) (And.intro (sFnc_7 x) (sFnc_8 x))))))))
def wFnc (x : Fnc) : Prop := (∀ y ∈ x.regs, wRg y) ∧ (∀ y ∈ x.params, wOpd y) ∧ (∀ y ∈ x.blocks, wBl y)
def eDIns (x : DIns) : List IV := [.int .u8 x.op, .int .u8 x.d, .int .u8 x.a, .int .u8 x.b, .int .i16 x.n]
theorem cl_eDIns (x : DIns) : Cl1 (eDIns x) := (cl_cons (closed_int _ _) rfl (cl_cons (closed_int _ _) rfl (cl_cons (closed_int _ _) rfl (cl_cons (closed_int _ _) rfl (cl_cons (closed_int _ _) rfl cl_nil)))))
theorem sDIns_0 (x : DIns) : (eDIns x).length = 5 := rfl
theorem sDIns_1 (x : DIns) : (eDIns x)[0]? = some (.int .u8 x.op) := rfl
theorem sDIns_2 (x : DIns) : (eDIns x)[1]? = some (.int .u8 x.d) := rfl
theorem sDIns_3 (x : DIns) : (eDIns x)[2]? = some (.int .u8 x.a) := rfl
theorem sDIns_4 (x : DIns) : (eDIns x)[3]? = some (.int .u8 x.b) := rfl
theorem sDIns_5 (x : DIns) : (eDIns x)[4]? = some (.int .i16 x.n) := rfl
theorem sDIns_6 (x : DIns) : ipart true 5 0 (eDIns x) = some (.agg (eDIns x)) := rfl
theorem sDIns_7 (x : DIns) : (∀ v ∈ eDIns x, v.one = true) = True := eq_true fun v h => (cl_eDIns x v h).2
theorem sDIns_8 (x : DIns) : ∀ o cs, splice (eDIns x) o cs = splice [.int .u8 x.op, .int .u8 x.d, .int .u8 x.a, .int .u8 x.b, .int .i16 x.n] o cs := fun _ _ => rfl
def sDIns (x : DIns) := And.intro (sDIns_0 x) (And.intro (sDIns_1 x) (And.intro (sDIns_2 x) (And.intro (sDIns_3 x) (And.intro (sDIns_4 x) (And.intro (sDIns_5 x) (And.intro (sDIns_6 x) (And.intro (sDIns_7 x) (sDIns_8 x))))))))
theorem qcDIns (a b : DIns) : eqCells [.i, .i, .i, .i, .i] (eDIns a) (eDIns b) = some (decide (a = b)) := by
  refine (eqC_i (eqC_i (eqC_i (eqC_i (eqC_i eqC_n))))).trans ?_
  congr 2
  rcases a with ⟨x0, x1, x2, x3, x4⟩
  rcases b with ⟨y0, y1, y2, y3, y4⟩
  simp [and_assoc]
def qDIns {c : Bool} (a b : DIns) := q_agg (c := c) ty130 rfl rfl (qcDIns a b)
def wDIns (x : DIns) : Prop := (Lit.int .u8 x.op).wf = true ∧ (Lit.int .u8 x.d).wf = true ∧ (Lit.int .u8 x.a).wf = true ∧ (Lit.int .u8 x.b).wf = true ∧ (Lit.int .i16 x.n).wf = true
def eDBl (x : DBl) : List IV := [.sim (x.code.map eDIns) false, .int .u8 x.term, .int .u8 x.a, .int .u8 x.b, .int .u8 x.v]
theorem cl_eDBl (x : DBl) : Cl1 (eDBl x) := (cl_cons (cl_map cl_eDIns _) rfl (cl_cons (closed_int _ _) rfl (cl_cons (closed_int _ _) rfl (cl_cons (closed_int _ _) rfl (cl_cons (closed_int _ _) rfl cl_nil)))))
theorem sDBl_0 (x : DBl) : (eDBl x).length = 5 := rfl
theorem sDBl_1 (x : DBl) : (eDBl x)[0]? = some (.sim (x.code.map eDIns) false) := rfl
theorem sDBl_2 (x : DBl) : (eDBl x)[1]? = some (.int .u8 x.term) := rfl
theorem sDBl_3 (x : DBl) : (eDBl x)[2]? = some (.int .u8 x.a) := rfl
theorem sDBl_4 (x : DBl) : (eDBl x)[3]? = some (.int .u8 x.b) := rfl
theorem sDBl_5 (x : DBl) : (eDBl x)[4]? = some (.int .u8 x.v) := rfl
theorem sDBl_6 (x : DBl) : ipart true 5 0 (eDBl x) = some (.agg (eDBl x)) := rfl
theorem sDBl_7 (x : DBl) : (∀ v ∈ eDBl x, v.one = true) = True := eq_true fun v h => (cl_eDBl x v h).2
theorem sDBl_8 (x : DBl) : ∀ o cs, splice (eDBl x) o cs = splice [.sim (x.code.map eDIns) false, .int .u8 x.term, .int .u8 x.a, .int .u8 x.b, .int .u8 x.v] o cs := fun _ _ => rfl
def sDBl (x : DBl) := And.intro (sDBl_0 x) (And.intro (sDBl_1 x) (And.intro (sDBl_2 x) (And.intro (sDBl_3 x) (And.intro (sDBl_4 x) (And.intro (sDBl_5 x) (And.intro (sDBl_6 x) (And.intro (sDBl_7 x) (sDBl_8 x))))))))
def wDBl (x : DBl) : Prop := (∀ y ∈ x.code, wDIns y) ∧ (Lit.int .u8 x.term).wf = true ∧ (Lit.int .u8 x.a).wf = true ∧ (Lit.int .u8 x.b).wf = true ∧ (Lit.int .u8 x.v).wf = true
def eDrf (x : Drf) : List IV := [.int .u8 x.g, .int .u8 x.x, .int .u8 x.params, .sim (x.blocks.map eDBl) false]
theorem cl_eDrf (x : Drf) : Cl1 (eDrf x) := (cl_cons (closed_int _ _) rfl (cl_cons (closed_int _ _) rfl (cl_cons (closed_int _ _) rfl (cl_cons (cl_map cl_eDBl _) rfl cl_nil))))
theorem sDrf_0 (x : Drf) : (eDrf x).length = 4 := rfl
theorem sDrf_1 (x : Drf) : (eDrf x)[0]? = some (.int .u8 x.g) := rfl
theorem sDrf_2 (x : Drf) : (eDrf x)[1]? = some (.int .u8 x.x) := rfl
theorem sDrf_3 (x : Drf) : (eDrf x)[2]? = some (.int .u8 x.params) := rfl
theorem sDrf_4 (x : Drf) : (eDrf x)[3]? = some (.sim (x.blocks.map eDBl) false) := rfl
theorem sDrf_5 (x : Drf) : ipart true 4 0 (eDrf x) = some (.agg (eDrf x)) := rfl
theorem sDrf_6 (x : Drf) : (∀ v ∈ eDrf x, v.one = true) = True := eq_true fun v h => (cl_eDrf x v h).2
theorem sDrf_7 (x : Drf) : ∀ o cs, splice (eDrf x) o cs = splice [.int .u8 x.g, .int .u8 x.x, .int .u8 x.params, .sim (x.blocks.map eDBl) false] o cs := fun _ _ => rfl
def sDrf (x : Drf) := And.intro (sDrf_0 x) (And.intro (sDrf_1 x) (And.intro (sDrf_2 x) (And.intro (sDrf_3 x) (And.intro (sDrf_4 x) (And.intro (sDrf_5 x) (And.intro (sDrf_6 x) (sDrf_7 x)))))))
def wDrf (x : Drf) : Prop := (Lit.int .u8 x.g).wf = true ∧ (Lit.int .u8 x.x).wf = true ∧ (Lit.int .u8 x.params).wf = true ∧ (∀ y ∈ x.blocks, wDBl y)
def eTgt (x : Tgt) : List IV := [.int .i64 x.regs.a0, .int .i64 x.regs.a1, .sim (x.clobber.a0.map eInt) false, .sim (x.clobber.a1.map eInt) false, .int .i64 x.slots]
theorem cl_eTgt (x : Tgt) : Cl1 (eTgt x) := (cl_cons (closed_int _ _) rfl (cl_cons (closed_int _ _) rfl (cl_cons (cl_map cl_eInt _) rfl (cl_cons (cl_map cl_eInt _) rfl (cl_cons (closed_int _ _) rfl cl_nil)))))
theorem sTgt_0 (x : Tgt) : (eTgt x).length = 5 := rfl
theorem sTgt_1 (x : Tgt) : (eTgt x)[0]? = some (.int .i64 x.regs.a0) := rfl
theorem sTgt_2 (x : Tgt) : (eTgt x)[1]? = some (.int .i64 x.regs.a1) := rfl
theorem sTgt_3 (x : Tgt) : (eTgt x)[2]? = some (.sim (x.clobber.a0.map eInt) false) := rfl
theorem sTgt_4 (x : Tgt) : (eTgt x)[3]? = some (.sim (x.clobber.a1.map eInt) false) := rfl
theorem sTgt_5 (x : Tgt) : (eTgt x)[4]? = some (.int .i64 x.slots) := rfl
theorem sTgt_6 (x : Tgt) : ipart true 5 0 (eTgt x) = some (.agg (eTgt x)) := rfl
theorem sTgt_7 (x : Tgt) : ipart true 2 0 (eTgt x) = some (.agg (eA2 eInt x.regs)) := rfl
theorem sTgt_8 (x : Tgt) : ipart true 2 2 (eTgt x) = some (.agg (eA2 (eS eInt) x.clobber)) := rfl
theorem sTgt_9 (x : Tgt) : (∀ v ∈ eTgt x, v.one = true) = True := eq_true fun v h => (cl_eTgt x v h).2
theorem sTgt_10 (x : Tgt) : ∀ o cs, splice (eTgt x) o cs = splice [.int .i64 x.regs.a0, .int .i64 x.regs.a1, .sim (x.clobber.a0.map eInt) false, .sim (x.clobber.a1.map eInt) false, .int .i64 x.slots] o cs := fun _ _ => rfl
def sTgt (x : Tgt) := And.intro (sTgt_0 x) (And.intro (sTgt_1 x) (And.intro (sTgt_2 x) (And.intro (sTgt_3 x) (And.intro (sTgt_4 x) (And.intro (sTgt_5 x) (And.intro (sTgt_6 x) (And.intro (sTgt_7 x) (And.intro (sTgt_8 x) (And.intro (sTgt_9 x) (sTgt_10 x))))))))))
def wTgt (x : Tgt) : Prop := (Lit.int .i64 x.regs.a0).wf = true ∧ (Lit.int .i64 x.regs.a1).wf = true ∧ (∀ y ∈ x.clobber.a0, (Lit.int .i64 y).wf = true) ∧ (∀ y ∈ x.clobber.a1, (Lit.int .i64 y).wf = true) ∧ (Lit.int .i64 x.slots).wf = true
def eLc (x : Lc) : List IV := [.int .i64 x.kind, .int .i64 x.cls, .int .i64 x.n]
theorem cl_eLc (x : Lc) : Cl1 (eLc x) := (cl_cons (closed_int _ _) rfl (cl_cons (closed_int _ _) rfl (cl_cons (closed_int _ _) rfl cl_nil)))
theorem sLc_0 (x : Lc) : (eLc x).length = 3 := rfl
theorem sLc_1 (x : Lc) : (eLc x)[0]? = some (.int .i64 x.kind) := rfl
theorem sLc_2 (x : Lc) : (eLc x)[1]? = some (.int .i64 x.cls) := rfl
theorem sLc_3 (x : Lc) : (eLc x)[2]? = some (.int .i64 x.n) := rfl
theorem sLc_4 (x : Lc) : ipart true 3 0 (eLc x) = some (.agg (eLc x)) := rfl
theorem sLc_5 (x : Lc) : (∀ v ∈ eLc x, v.one = true) = True := eq_true fun v h => (cl_eLc x v h).2
theorem sLc_6 (x : Lc) : ∀ o cs, splice (eLc x) o cs = splice [.int .i64 x.kind, .int .i64 x.cls, .int .i64 x.n] o cs := fun _ _ => rfl
def sLc (x : Lc) := And.intro (sLc_0 x) (And.intro (sLc_1 x) (And.intro (sLc_2 x) (And.intro (sLc_3 x) (And.intro (sLc_4 x) (And.intro (sLc_5 x) (sLc_6 x))))))
theorem qcLc (a b : Lc) : eqCells [.i, .i, .i] (eLc a) (eLc b) = some (decide (a = b)) := by
  refine (eqC_i (eqC_i (eqC_i eqC_n))).trans ?_
  congr 2
  rcases a with ⟨x0, x1, x2⟩
  rcases b with ⟨y0, y1, y2⟩
  simp [and_assoc]
def qLc {c : Bool} (a b : Lc) := q_agg (c := c) ty134 rfl rfl (qcLc a b)
def wLc (x : Lc) : Prop := (Lit.int .i64 x.kind).wf = true ∧ (Lit.int .i64 x.cls).wf = true ∧ (Lit.int .i64 x.n).wf = true
def eSg (x : Sg) : List IV := [.int .i64 x.v, .int .i64 x.frm, .int .i64 x.too, .int .i64 x.loc.kind, .int .i64 x.loc.cls, .int .i64 x.loc.n]
theorem cl_eSg (x : Sg) : Cl1 (eSg x) := (cl_cons (closed_int _ _) rfl (cl_cons (closed_int _ _) rfl (cl_cons (closed_int _ _) rfl (cl_cons (closed_int _ _) rfl (cl_cons (closed_int _ _) rfl (cl_cons (closed_int _ _) rfl cl_nil))))))
theorem sSg_0 (x : Sg) : (eSg x).length = 6 := rfl
theorem sSg_1 (x : Sg) : (eSg x)[0]? = some (.int .i64 x.v) := rfl
theorem sSg_2 (x : Sg) : (eSg x)[1]? = some (.int .i64 x.frm) := rfl
theorem sSg_3 (x : Sg) : (eSg x)[2]? = some (.int .i64 x.too) := rfl
theorem sSg_4 (x : Sg) : (eSg x)[3]? = some (.int .i64 x.loc.kind) := rfl
theorem sSg_5 (x : Sg) : (eSg x)[4]? = some (.int .i64 x.loc.cls) := rfl
theorem sSg_6 (x : Sg) : (eSg x)[5]? = some (.int .i64 x.loc.n) := rfl
theorem sSg_7 (x : Sg) : ipart true 6 0 (eSg x) = some (.agg (eSg x)) := rfl
theorem sSg_8 (x : Sg) : ipart true 3 3 (eSg x) = some (.agg (eLc x.loc)) := rfl
theorem sSg_9 (x : Sg) : (∀ v ∈ eSg x, v.one = true) = True := eq_true fun v h => (cl_eSg x v h).2
theorem sSg_10 (x : Sg) : ∀ o cs, splice (eSg x) o cs = splice [.int .i64 x.v, .int .i64 x.frm, .int .i64 x.too, .int .i64 x.loc.kind, .int .i64 x.loc.cls, .int .i64 x.loc.n] o cs := fun _ _ => rfl
def sSg (x : Sg) := And.intro (sSg_0 x) (And.intro (sSg_1 x) (And.intro (sSg_2 x) (And.intro (sSg_3 x) (And.intro (sSg_4 x) (And.intro (sSg_5 x) (And.intro (sSg_6 x) (And.intro (sSg_7 x) (And.intro (sSg_8 x) (And.intro (sSg_9 x) (sSg_10 x))))))))))
theorem qcSg (a b : Sg) : eqCells [.i, .i, .i, .i, .i, .i] (eSg a) (eSg b) = some (decide (a = b)) := by
  refine (eqC_i (eqC_i (eqC_i (eqC_i (eqC_i (eqC_i eqC_n)))))).trans ?_
  congr 2
  rcases a with ⟨x0, x1, x2, ⟨x3_0, x3_1, x3_2⟩⟩
  rcases b with ⟨y0, y1, y2, ⟨y3_0, y3_1, y3_2⟩⟩
  simp [and_assoc]
def qSg {c : Bool} (a b : Sg) := q_agg (c := c) ty155 rfl rfl (qcSg a b)
def wSg (x : Sg) : Prop := (Lit.int .i64 x.v).wf = true ∧ (Lit.int .i64 x.frm).wf = true ∧ (Lit.int .i64 x.too).wf = true ∧ wLc x.loc
def eAl (x : Al) : List IV := [.int .i64 x.slots, .sim (x.segs.map eSg) false]
theorem cl_eAl (x : Al) : Cl1 (eAl x) := (cl_cons (closed_int _ _) rfl (cl_cons (cl_map cl_eSg _) rfl cl_nil))
theorem sAl_0 (x : Al) : (eAl x).length = 2 := rfl
theorem sAl_1 (x : Al) : (eAl x)[0]? = some (.int .i64 x.slots) := rfl
theorem sAl_2 (x : Al) : (eAl x)[1]? = some (.sim (x.segs.map eSg) false) := rfl
theorem sAl_3 (x : Al) : ipart true 2 0 (eAl x) = some (.agg (eAl x)) := rfl
theorem sAl_4 (x : Al) : (∀ v ∈ eAl x, v.one = true) = True := eq_true fun v h => (cl_eAl x v h).2
theorem sAl_5 (x : Al) : ∀ o cs, splice (eAl x) o cs = splice [.int .i64 x.slots, .sim (x.segs.map eSg) false] o cs := fun _ _ => rfl
def sAl (x : Al) := And.intro (sAl_0 x) (And.intro (sAl_1 x) (And.intro (sAl_2 x) (And.intro (sAl_3 x) (And.intro (sAl_4 x) (sAl_5 x)))))
def wAl (x : Al) : Prop := (Lit.int .i64 x.slots).wf = true ∧ (∀ y ∈ x.segs, wSg y)
def eUnt (x : Unt) : List IV := [.int .i64 x.target.regs.a0, .int .i64 x.target.regs.a1, .sim (x.target.clobber.a0.map eInt) false, .sim (x.target.clobber.a1.map eInt) false, .int .i64 x.target.slots, .bool x.func.machine, .str x.func.name, .sim (x.func.regs.map eRg) false, .sim (x.func.params.map eOpd) false, .sim (x.func.blocks.map eBl) false, .bool x.has, .int .i64 x.alloc.slots, .sim (x.alloc.segs.map eSg) false]
theorem cl_eUnt (x : Unt) : Cl1 (eUnt x) := (cl_cons (closed_int _ _) rfl (cl_cons (closed_int _ _) rfl (cl_cons (cl_map cl_eInt _) rfl (cl_cons (cl_map cl_eInt _) rfl (cl_cons (closed_int _ _) rfl (cl_cons (closed_bool _) rfl (cl_cons (closed_str _) rfl (cl_cons (cl_map cl_eRg _) rfl (cl_cons (cl_map cl_eOpd _) rfl (cl_cons (cl_map cl_eBl _) rfl (cl_cons (closed_bool _) rfl (cl_cons (closed_int _ _) rfl (cl_cons (cl_map cl_eSg _) rfl cl_nil)))))))))))))
theorem sUnt_0 (x : Unt) : (eUnt x).length = 13 := rfl
theorem sUnt_1 (x : Unt) : (eUnt x)[0]? = some (.int .i64 x.target.regs.a0) := rfl
theorem sUnt_2 (x : Unt) : (eUnt x)[1]? = some (.int .i64 x.target.regs.a1) := rfl
theorem sUnt_3 (x : Unt) : (eUnt x)[2]? = some (.sim (x.target.clobber.a0.map eInt) false) := rfl
theorem sUnt_4 (x : Unt) : (eUnt x)[3]? = some (.sim (x.target.clobber.a1.map eInt) false) := rfl
theorem sUnt_5 (x : Unt) : (eUnt x)[4]? = some (.int .i64 x.target.slots) := rfl
theorem sUnt_6 (x : Unt) : (eUnt x)[5]? = some (.bool x.func.machine) := rfl
theorem sUnt_7 (x : Unt) : (eUnt x)[6]? = some (.str x.func.name) := rfl
theorem sUnt_8 (x : Unt) : (eUnt x)[7]? = some (.sim (x.func.regs.map eRg) false) := rfl
theorem sUnt_9 (x : Unt) : (eUnt x)[8]? = some (.sim (x.func.params.map eOpd) false) := rfl
theorem sUnt_10 (x : Unt) : (eUnt x)[9]? = some (.sim (x.func.blocks.map eBl) false) := rfl
theorem sUnt_11 (x : Unt) : (eUnt x)[10]? = some (.bool x.has) := rfl
theorem sUnt_12 (x : Unt) : (eUnt x)[11]? = some (.int .i64 x.alloc.slots) := rfl
theorem sUnt_13 (x : Unt) : (eUnt x)[12]? = some (.sim (x.alloc.segs.map eSg) false) := rfl
theorem sUnt_14 (x : Unt) : ipart true 13 0 (eUnt x) = some (.agg (eUnt x)) := rfl
theorem sUnt_15 (x : Unt) : ipart true 5 0 (eUnt x) = some (.agg (eTgt x.target)) := rfl
theorem sUnt_16 (x : Unt) : ipart true 2 0 (eUnt x) = some (.agg (eA2 eInt x.target.regs)) := rfl
theorem sUnt_17 (x : Unt) : ipart true 2 2 (eUnt x) = some (.agg (eA2 (eS eInt) x.target.clobber)) := rfl
theorem sUnt_18 (x : Unt) : ipart true 5 5 (eUnt x) = some (.agg (eFnc x.func)) := rfl
theorem sUnt_19 (x : Unt) : ipart true 2 11 (eUnt x) = some (.agg (eAl x.alloc)) := rfl
theorem sUnt_20 (x : Unt) : (∀ v ∈ eUnt x, v.one = true) = True := eq_true fun v h => (cl_eUnt x v h).2
theorem sUnt_21 (x : Unt) : ∀ o cs, splice (eUnt x) o cs = splice [.int .i64 x.target.regs.a0, .int .i64 x.target.regs.a1, .sim (x.target.clobber.a0.map eInt) false, .sim (x.target.clobber.a1.map eInt) false, .int .i64 x.target.slots, .bool x.func.machine, .str x.func.name, .sim (x.func.regs.map eRg) false, .sim (x.func.params.map eOpd) false, .sim (x.func.blocks.map eBl) false, .bool x.has, .int .i64 x.alloc.slots, .sim (x.alloc.segs.map eSg) false] o cs := fun _ _ => rfl
def sUnt (x : Unt) := And.intro (sUnt_0 x) (And.intro (sUnt_1 x) (And.intro (sUnt_2 x) (And.intro (sUnt_3 x) (And.intro (sUnt_4 x) (And.intro (sUnt_5 x) (And.intro (sUnt_6 x) (And.intro (sUnt_7 x) (And.intro (sUnt_8 x) (And.intro (sUnt_9 x) (And.intro (sUnt_10 x) (And.intro (sUnt_11 x) (And.intro (sUnt_12 x) (And.intro (sUnt_13 x) (And.intro (sUnt_14 x) (And.intro (sUnt_15 x) (And.intro (sUnt_16 x) (And.intro (sUnt_17 x) (And.intro (sUnt_18 x) (And.intro (sUnt_19 x) (And.intro (sUnt_20 x) (sUnt_21 x)))))))))))))))))))))
def wUnt (x : Unt) : Prop := wTgt x.target ∧ wFnc x.func ∧ wAl x.alloc
def egraph_Graph (x : graph_Graph) : List IV := [.sim (x.succ.map (eS eInt)) false, .sim (x.pred.map (eS eInt)) false]
theorem cl_egraph_Graph (x : graph_Graph) : Cl1 (egraph_Graph x) := (cl_cons (cl_map (cl_eS cl_eInt) _) rfl (cl_cons (cl_map (cl_eS cl_eInt) _) rfl cl_nil))
theorem sgraph_Graph_0 (x : graph_Graph) : (egraph_Graph x).length = 2 := rfl
theorem sgraph_Graph_1 (x : graph_Graph) : (egraph_Graph x)[0]? = some (.sim (x.succ.map (eS eInt)) false) := rfl
theorem sgraph_Graph_2 (x : graph_Graph) : (egraph_Graph x)[1]? = some (.sim (x.pred.map (eS eInt)) false) := rfl
theorem sgraph_Graph_3 (x : graph_Graph) : ipart true 2 0 (egraph_Graph x) = some (.agg (egraph_Graph x)) := rfl
theorem sgraph_Graph_4 (x : graph_Graph) : (∀ v ∈ egraph_Graph x, v.one = true) = True := eq_true fun v h => (cl_egraph_Graph x v h).2
theorem sgraph_Graph_5 (x : graph_Graph) : ∀ o cs, splice (egraph_Graph x) o cs = splice [.sim (x.succ.map (eS eInt)) false, .sim (x.pred.map (eS eInt)) false] o cs := fun _ _ => rfl
def sgraph_Graph (x : graph_Graph) := And.intro (sgraph_Graph_0 x) (And.intro (sgraph_Graph_1 x) (And.intro (sgraph_Graph_2 x) (And.intro (sgraph_Graph_3 x) (And.intro (sgraph_Graph_4 x) (sgraph_Graph_5 x)))))
def wgraph_Graph (x : graph_Graph) : Prop := (∀ y ∈ x.succ, ∀ yy ∈ y, (Lit.int .i64 yy).wf = true) ∧ (∀ y ∈ x.pred, ∀ yy ∈ y, (Lit.int .i64 yy).wf = true)
def ebits_Set (x : bits_Set) : List IV := [.int .i64 x.n, .sim (x.words.map (eI .u64)) false]
theorem cl_ebits_Set (x : bits_Set) : Cl1 (ebits_Set x) := (cl_cons (closed_int _ _) rfl (cl_cons (cl_map (cl_eI .u64) _) rfl cl_nil))
theorem sbits_Set_0 (x : bits_Set) : (ebits_Set x).length = 2 := rfl
theorem sbits_Set_1 (x : bits_Set) : (ebits_Set x)[0]? = some (.int .i64 x.n) := rfl
theorem sbits_Set_2 (x : bits_Set) : (ebits_Set x)[1]? = some (.sim (x.words.map (eI .u64)) false) := rfl
theorem sbits_Set_3 (x : bits_Set) : ipart true 2 0 (ebits_Set x) = some (.agg (ebits_Set x)) := rfl
theorem sbits_Set_4 (x : bits_Set) : (∀ v ∈ ebits_Set x, v.one = true) = True := eq_true fun v h => (cl_ebits_Set x v h).2
theorem sbits_Set_5 (x : bits_Set) : ∀ o cs, splice (ebits_Set x) o cs = splice [.int .i64 x.n, .sim (x.words.map (eI .u64)) false] o cs := fun _ _ => rfl
def sbits_Set (x : bits_Set) := And.intro (sbits_Set_0 x) (And.intro (sbits_Set_1 x) (And.intro (sbits_Set_2 x) (And.intro (sbits_Set_3 x) (And.intro (sbits_Set_4 x) (sbits_Set_5 x)))))
def wbits_Set (x : bits_Set) : Prop := (Lit.int .i64 x.n).wf = true ∧ (∀ y ∈ x.words, (Lit.int .u64 y).wf = true)
def edyehouseref12_maker (x : dyehouseref12_maker) : List IV := [.bool x.f.machine, .str x.f.name, .sim (x.f.regs.map eRg) false, .sim (x.f.params.map eOpd) false, .sim (x.f.blocks.map eBl) false, .sim (x.ids.a0.map eInt) false, .sim (x.ids.a1.map eInt) false, .sim (x.has.map eInt) false]
theorem cl_edyehouseref12_maker (x : dyehouseref12_maker) : Cl1 (edyehouseref12_maker x) := (cl_cons (closed_bool _) rfl (cl_cons (closed_str _) rfl (cl_cons (cl_map cl_eRg _) rfl (cl_cons (cl_map cl_eOpd _) rfl (cl_cons (cl_map cl_eBl _) rfl (cl_cons (cl_map cl_eInt _) rfl (cl_cons (cl_map cl_eInt _) rfl (cl_cons (cl_map cl_eInt _) rfl cl_nil))))))))
theorem sdyehouseref12_maker_0 (x : dyehouseref12_maker) : (edyehouseref12_maker x).length = 8 := rfl
theorem sdyehouseref12_maker_1 (x : dyehouseref12_maker) : (edyehouseref12_maker x)[0]? = some (.bool x.f.machine) := rfl
theorem sdyehouseref12_maker_2 (x : dyehouseref12_maker) : (edyehouseref12_maker x)[1]? = some (.str x.f.name) := rfl
theorem sdyehouseref12_maker_3 (x : dyehouseref12_maker) : (edyehouseref12_maker x)[2]? = some (.sim (x.f.regs.map eRg) false) := rfl
theorem sdyehouseref12_maker_4 (x : dyehouseref12_maker) : (edyehouseref12_maker x)[3]? = some (.sim (x.f.params.map eOpd) false) := rfl
theorem sdyehouseref12_maker_5 (x : dyehouseref12_maker) : (edyehouseref12_maker x)[4]? = some (.sim (x.f.blocks.map eBl) false) := rfl
theorem sdyehouseref12_maker_6 (x : dyehouseref12_maker) : (edyehouseref12_maker x)[5]? = some (.sim (x.ids.a0.map eInt) false) := rfl
theorem sdyehouseref12_maker_7 (x : dyehouseref12_maker) : (edyehouseref12_maker x)[6]? = some (.sim (x.ids.a1.map eInt) false) := rfl
theorem sdyehouseref12_maker_8 (x : dyehouseref12_maker) : (edyehouseref12_maker x)[7]? = some (.sim (x.has.map eInt) false) := rfl
theorem sdyehouseref12_maker_9 (x : dyehouseref12_maker) : ipart true 8 0 (edyehouseref12_maker x) = some (.agg (edyehouseref12_maker x)) := rfl
theorem sdyehouseref12_maker_10 (x : dyehouseref12_maker) : ipart true 5 0 (edyehouseref12_maker x) = some (.agg (eFnc x.f)) := rfl
theorem sdyehouseref12_maker_11 (x : dyehouseref12_maker) : ipart true 2 5 (edyehouseref12_maker x) = some (.agg (eA2 (eS eInt) x.ids)) := rfl
theorem sdyehouseref12_maker_12 (x : dyehouseref12_maker) : (∀ v ∈ edyehouseref12_maker x, v.one = true) = True := eq_true fun v h => (cl_edyehouseref12_maker x v h).2
theorem sdyehouseref12_maker_13 (x : dyehouseref12_maker) : ∀ o cs, splice (edyehouseref12_maker x) o cs = splice [.bool x.f.machine, .str x.f.name, .sim (x.f.regs.map eRg) false, .sim (x.f.params.map eOpd) false, .sim (x.f.blocks.map eBl) false, .sim (x.ids.a0.map eInt) false, .sim (x.ids.a1.map eInt) false, .sim (x.has.map eInt) false] o cs := fun _ _ => rfl
def sdyehouseref12_maker (x : dyehouseref12_maker) := And.intro (sdyehouseref12_maker_0 x) (And.intro (sdyehouseref12_maker_1 x) (And.intro (sdyehouseref12_maker_2 x) (And.intro (sdyehouseref12_maker_3 x) (And.intro (sdyehouseref12_maker_4 x) (And.intro (sdyehouseref12_maker_5 x) (And.intro (sdyehouseref12_maker_6 x) (And.intro (sdyehouseref12_maker_7 x) (And.intro (sdyehouseref12_maker_8 x) (And.intro (sdyehouseref12_maker_9 x) (And.intro (sdyehouseref12_maker_10 x) (And.intro (sdyehouseref12_maker_11 x) (And.intro (sdyehouseref12_maker_12 x) (sdyehouseref12_maker_13 x)))))))))))))
def wdyehouseref12_maker (x : dyehouseref12_maker) : Prop := wFnc x.f ∧ (∀ y ∈ x.ids.a0, (Lit.int .i64 y).wf = true) ∧ (∀ y ∈ x.ids.a1, (Lit.int .i64 y).wf = true) ∧ (∀ y ∈ x.has, (Lit.int .i64 y).wf = true)
def edom_Tree (x : dom_Tree) : List IV := [.sim (x.idom.map eInt) false, .sim (x.order.map eInt) false]
theorem cl_edom_Tree (x : dom_Tree) : Cl1 (edom_Tree x) := (cl_cons (cl_map cl_eInt _) rfl (cl_cons (cl_map cl_eInt _) rfl cl_nil))
theorem sdom_Tree_0 (x : dom_Tree) : (edom_Tree x).length = 2 := rfl
theorem sdom_Tree_1 (x : dom_Tree) : (edom_Tree x)[0]? = some (.sim (x.idom.map eInt) false) := rfl
theorem sdom_Tree_2 (x : dom_Tree) : (edom_Tree x)[1]? = some (.sim (x.order.map eInt) false) := rfl
theorem sdom_Tree_3 (x : dom_Tree) : ipart true 2 0 (edom_Tree x) = some (.agg (edom_Tree x)) := rfl
theorem sdom_Tree_4 (x : dom_Tree) : (∀ v ∈ edom_Tree x, v.one = true) = True := eq_true fun v h => (cl_edom_Tree x v h).2
theorem sdom_Tree_5 (x : dom_Tree) : ∀ o cs, splice (edom_Tree x) o cs = splice [.sim (x.idom.map eInt) false, .sim (x.order.map eInt) false] o cs := fun _ _ => rfl
def sdom_Tree (x : dom_Tree) := And.intro (sdom_Tree_0 x) (And.intro (sdom_Tree_1 x) (And.intro (sdom_Tree_2 x) (And.intro (sdom_Tree_3 x) (And.intro (sdom_Tree_4 x) (sdom_Tree_5 x)))))
def wdom_Tree (x : dom_Tree) : Prop := (∀ y ∈ x.idom, (Lit.int .i64 y).wf = true) ∧ (∀ y ∈ x.order, (Lit.int .i64 y).wf = true)
theorem sA41_0 (x : A2 Int) : (eA2 eInt x).length = 2 := rfl
theorem sA41_1 (x : A2 Int) : (eA2 eInt x)[0]? = some (.int .i64 x.a0) := rfl
theorem sA41_2 (x : A2 Int) : (eA2 eInt x)[1]? = some (.int .i64 x.a1) := rfl
theorem sA41_3 (x : A2 Int) : ipart true 2 0 (eA2 eInt x) = some (.agg (eA2 eInt x)) := rfl
theorem sA41_4 (x : A2 Int) : (∀ v ∈ eA2 eInt x, v.one = true) = True := eq_true fun v h => ((cl_eA2 cl_eInt) x v h).2
theorem sA41_5 (x : A2 Int) : ∀ o cs, splice (eA2 eInt x) o cs = splice [.int .i64 x.a0, .int .i64 x.a1] o cs := fun _ _ => rfl
def sA41 (x : A2 Int) := And.intro (sA41_0 x) (And.intro (sA41_1 x) (And.intro (sA41_2 x) (And.intro (sA41_3 x) (And.intro (sA41_4 x) (sA41_5 x)))))
theorem qc41 (a b : A2 Int) : eqCells [.i, .i] (eA2 eInt a) (eA2 eInt b) = some (decide (a = b)) := by
  refine (eqC_i (eqC_i eqC_n)).trans ?_
  congr 2
  rcases a with ⟨x0, x1⟩
  rcases b with ⟨y0, y1⟩
  simp [and_assoc]
def q41 {c : Bool} (a b : A2 Int) := q_agg (c := c) ty41 rfl rfl (qc41 a b)
theorem sA88_0 (x : A2 (List Int)) : (eA2 (eS eInt) x).length = 2 := rfl
theorem sA88_1 (x : A2 (List Int)) : (eA2 (eS eInt) x)[0]? = some (.sim (x.a0.map eInt) false) := rfl
theorem sA88_2 (x : A2 (List Int)) : (eA2 (eS eInt) x)[1]? = some (.sim (x.a1.map eInt) false) := rfl
theorem sA88_3 (x : A2 (List Int)) : ipart true 2 0 (eA2 (eS eInt) x) = some (.agg (eA2 (eS eInt) x)) := rfl
theorem sA88_4 (x : A2 (List Int)) : (∀ v ∈ eA2 (eS eInt) x, v.one = true) = True := eq_true fun v h => ((cl_eA2 (cl_eS cl_eInt)) x v h).2
theorem sA88_5 (x : A2 (List Int)) : ∀ o cs, splice (eA2 (eS eInt) x) o cs = splice [.sim (x.a0.map eInt) false, .sim (x.a1.map eInt) false] o cs := fun _ _ => rfl
def sA88 (x : A2 (List Int)) := And.intro (sA88_0 x) (And.intro (sA88_1 x) (And.intro (sA88_2 x) (And.intro (sA88_3 x) (And.intro (sA88_4 x) (sA88_5 x)))))
theorem sA175_0 (x : A2 (List (List Int))) : (eA2 (eS (eS eInt)) x).length = 2 := rfl
theorem sA175_1 (x : A2 (List (List Int))) : (eA2 (eS (eS eInt)) x)[0]? = some (.sim (x.a0.map (eS eInt)) false) := rfl
theorem sA175_2 (x : A2 (List (List Int))) : (eA2 (eS (eS eInt)) x)[1]? = some (.sim (x.a1.map (eS eInt)) false) := rfl
theorem sA175_3 (x : A2 (List (List Int))) : ipart true 2 0 (eA2 (eS (eS eInt)) x) = some (.agg (eA2 (eS (eS eInt)) x)) := rfl
theorem sA175_4 (x : A2 (List (List Int))) : (∀ v ∈ eA2 (eS (eS eInt)) x, v.one = true) = True := eq_true fun v h => ((cl_eA2 (cl_eS (cl_eS cl_eInt))) x v h).2
theorem sA175_5 (x : A2 (List (List Int))) : ∀ o cs, splice (eA2 (eS (eS eInt)) x) o cs = splice [.sim (x.a0.map (eS eInt)) false, .sim (x.a1.map (eS eInt)) false] o cs := fun _ _ => rfl
def sA175 (x : A2 (List (List Int))) := And.intro (sA175_0 x) (And.intro (sA175_1 x) (And.intro (sA175_2 x) (And.intro (sA175_3 x) (And.intro (sA175_4 x) (sA175_5 x)))))
end Go.Proofs.Ytodafoajkajnkaa.IL
