/- The cells of the program's data. Printed by types.py. -/
import Derived.Test.YtoojnagdenoknaaILT
import Derived.Test.YtoojnagdenoknaaPE0
import Derived.Test.YtoojnagdenoknaaPD
set_option linter.unusedSectionVars false
set_option linter.unnecessarySimpa false
set_option linter.unusedVariables false
set_option linter.unusedSimpArgs false
set_option linter.defProp false
set_option maxRecDepth 100000
namespace Go.Proofs.Ytoojnagdenoknaa.IL
open Go Go.RowKit PL
def eRg(x:Rg):List IV:=[.int .i64 x.id,.int .i64 x.cls]
theorem cl_eRg(x:Rg):Cl1 (eRg x):=(zf (zG _ _) rfl (zf (zG _ _) rfl yh))
def wRg(x:Rg):Prop:=(Lit.int .i64 x.id).wf=true∧(Lit.int .i64 x.cls).wf=true
def eOpd(x:Opd):List IV:=[.int .i64 x.kind,.int .i64 x.cls,.int .i64 x.n,.int .i64 x.tag]
theorem cl_eOpd(x:Opd):Cl1 (eOpd x):=(zf (zG _ _) rfl (zf (zG _ _) rfl (zf (zG _ _) rfl (zf (zG _ _) rfl yh))))
def wOpd(x:Opd):Prop:=(Lit.int .i64 x.kind).wf=true∧(Lit.int .i64 x.cls).wf=true∧(Lit.int .i64 x.n).wf=true∧(Lit.int .i64 x.tag).wf=true
def eIns(x:Ins):List IV:=[.int .i64 x.op,.int .i64 x.dst.kind,.int .i64 x.dst.cls,.int .i64 x.dst.n,.int .i64 x.dst.tag,.sim (x.args.map eOpd) false,.str x.name,.int .i64 x.off,.sim (x.labels.map eStr) false,.sim (x.cases.map eInt) false]
theorem cl_eIns(x:Ins):Cl1 (eIns x):=(zf (zG _ _) rfl (zf (zG _ _) rfl (zf (zG _ _) rfl (zf (zG _ _) rfl (zf (zG _ _) rfl (zf (zn cl_eOpd _) rfl (zf (yM _) rfl (zf (zG _ _) rfl (zf (zn cl_eStr _) rfl (zf (zn zj _) rfl yh))))))))))
theorem sIns_0(x:Ins):(eIns x).length=10:=rfl
theorem sIns_1(x:Ins):(eIns x)[0]?=some (.int .i64 x.op):=rfl
theorem sIns_2(x:Ins):(eIns x)[1]?=some (.int .i64 x.dst.kind):=rfl
theorem sIns_3(x:Ins):(eIns x)[2]?=some (.int .i64 x.dst.cls):=rfl
theorem sIns_4(x:Ins):(eIns x)[3]?=some (.int .i64 x.dst.n):=rfl
theorem sIns_5(x:Ins):(eIns x)[4]?=some (.int .i64 x.dst.tag):=rfl
theorem sIns_6(x:Ins):(eIns x)[5]?=some (.sim (x.args.map eOpd) false):=rfl
theorem sIns_7(x:Ins):(eIns x)[6]?=some (.str x.name):=rfl
theorem sIns_8(x:Ins):(eIns x)[7]?=some (.int .i64 x.off):=rfl
theorem sIns_9(x:Ins):(eIns x)[8]?=some (.sim (x.labels.map eStr) false):=rfl
theorem sIns_10(x:Ins):(eIns x)[9]?=some (.sim (x.cases.map eInt) false):=rfl
theorem sIns_11(x:Ins):ipart true 10 0 (eIns x)=some (.agg (eIns x)):=rfl
theorem sIns_12(x:Ins):ipart true 4 1 (eIns x)=some (.agg (eOpd x.dst)):=rfl
theorem sIns_13(x:Ins):(∀v∈eIns x,v.one=true)=True:=eq_true fun v h=>(cl_eIns x v h).2
theorem sIns_14(x:Ins): ∀o cs,splice (eIns x) o cs=splice [.int .i64 x.op,.int .i64 x.dst.kind,.int .i64 x.dst.cls,.int .i64 x.dst.n,.int .i64 x.dst.tag,.sim (x.args.map eOpd) false,.str x.name,.int .i64 x.off,.sim (x.labels.map eStr) false,.sim (x.cases.map eInt) false] o cs:=fun _ _=>rfl
def sIns(x:Ins):=And.intro (sIns_0 x) (And.intro (sIns_1 x) (And.intro (sIns_2 x) (And.intro (sIns_3 x) (And.intro (sIns_4 x) (And.intro (sIns_5 x) (And.intro (sIns_6 x) (And.intro (sIns_7 x) (And.intro (sIns_8 x) (And.intro (sIns_9 x) (And.intro (sIns_10 x) (And.intro (sIns_11 x) (And.intro (sIns_12 x) (And.intro (sIns_13 x) (sIns_14 x))))))))))))))
def wIns(x:Ins):Prop:=(Lit.int .i64 x.op).wf=true∧wOpd x.dst∧(∀y∈x.args,wOpd y)∧(Lit.int .i64 x.off).wf=true∧(∀y∈x.cases,(Lit.int .i64 y).wf=true)
def eBl(x:Bl):List IV:=[.str x.label,.bool x.edge,.sim (x.ins.map eOpd) false,.sim (x.code.map eIns) false]
theorem kz(x:Bl):Cl1 (eBl x):=(zf (yM _) rfl (zf (zZ _) rfl (zf (zn cl_eOpd _) rfl (zf (zn cl_eIns _) rfl yh))))
theorem sBl_0(x:Bl):(eBl x).length=4:=rfl
theorem sBl_1(x:Bl):(eBl x)[0]?=some (.str x.label):=rfl
theorem sBl_2(x:Bl):(eBl x)[1]?=some (.bool x.edge):=rfl
theorem sBl_3(x:Bl):(eBl x)[2]?=some (.sim (x.ins.map eOpd) false):=rfl
theorem sBl_4(x:Bl):(eBl x)[3]?=some (.sim (x.code.map eIns) false):=rfl
theorem sBl_5(x:Bl):ipart true 4 0 (eBl x)=some (.agg (eBl x)):=rfl
theorem sBl_6(x:Bl):(∀v∈eBl x,v.one=true)=True:=eq_true fun v h=>(kz x v h).2
theorem sBl_7(x:Bl): ∀o cs,splice (eBl x) o cs=splice [.str x.label,.bool x.edge,.sim (x.ins.map eOpd) false,.sim (x.code.map eIns) false] o cs:=fun _ _=>rfl
def sBl(x:Bl):=And.intro (sBl_0 x) (And.intro (sBl_1 x) (And.intro (sBl_2 x) (And.intro (sBl_3 x) (And.intro (sBl_4 x) (And.intro (sBl_5 x) (And.intro (sBl_6 x) (sBl_7 x)))))))
def wBl(x:Bl):Prop:=(∀y∈x.ins,wOpd y)∧(∀y∈x.code,wIns y)
def eFnc(x:Fnc):List IV:=[.bool x.machine,.str x.name,.sim (x.regs.map eRg) false,.sim (x.params.map eOpd) false,.sim (x.blocks.map eBl) false]
theorem ky(x:Fnc):Cl1 (eFnc x):=(zf (zZ _) rfl (zf (yM _) rfl (zf (zn cl_eRg _) rfl (zf (zn cl_eOpd _) rfl (zf (zn kz _) rfl yh)))))
theorem sFnc_0(x:Fnc):(eFnc x).length=5:=rfl
theorem sFnc_1(x:Fnc):(eFnc x)[0]?=some (.bool x.machine):=rfl
theorem sFnc_2(x:Fnc):(eFnc x)[1]?=some (.str x.name):=rfl
theorem sFnc_3(x:Fnc):(eFnc x)[2]?=some (.sim (x.regs.map eRg) false):=rfl
theorem sFnc_4(x:Fnc):(eFnc x)[3]?=some (.sim (x.params.map eOpd) false):=rfl
theorem sFnc_5(x:Fnc):(eFnc x)[4]?=some (.sim (x.blocks.map eBl) false):=rfl
theorem sFnc_6(x:Fnc):ipart true 5 0 (eFnc x)=some (.agg (eFnc x)):=rfl
theorem sFnc_7(x:Fnc):(∀v∈eFnc x,v.one=true)=True:=eq_true fun v h=>(ky x v h).2
theorem sFnc_8(x:Fnc): ∀o cs,splice (eFnc x) o cs=splice [.bool x.machine,.str x.name,.sim (x.regs.map eRg) false,.sim (x.params.map eOpd) false,.sim (x.blocks.map eBl) false] o cs:=fun _ _=>rfl
def sFnc(x:Fnc):=And.intro (sFnc_0 x) (And.intro (sFnc_1 x) (And.intro (sFnc_2 x) (And.intro (sFnc_3 x) (And.intro (sFnc_4 x) (And.intro (sFnc_5 x) (And.intro (sFnc_6 x) (And.intro (sFnc_7 x) (sFnc_8 x))))))))
def wFnc(x:Fnc):Prop:=(∀y∈x.regs,wRg y)∧(∀y∈x.params,wOpd y)∧(∀y∈x.blocks,wBl y)
def zH(x:zD):List IV:=[.int .i64 x.n,.sim (x.words.map (eI .u64)) false]
theorem zr(x:zD):Cl1 (zH x):=(zf (zG _ _) rfl (zf (zn (cl_eI .u64) _) rfl yh))
theorem sbits_Set_0(x:zD):(zH x).length=2:=rfl
theorem sbits_Set_1(x:zD):(zH x)[0]?=some (.int .i64 x.n):=rfl
theorem sbits_Set_2(x:zD):(zH x)[1]?=some (.sim (x.words.map (eI .u64)) false):=rfl
theorem sbits_Set_3(x:zD):ipart true 2 0 (zH x)=some (.agg (zH x)):=rfl
theorem sbits_Set_4(x:zD):(∀v∈zH x,v.one=true)=True:=eq_true fun v h=>(zr x v h).2
theorem sbits_Set_5(x:zD): ∀o cs,splice (zH x) o cs=splice [.int .i64 x.n,.sim (x.words.map (eI .u64)) false] o cs:=fun _ _=>rfl
def yz(x:zD):=And.intro (sbits_Set_0 x) (And.intro (sbits_Set_1 x) (And.intro (sbits_Set_2 x) (And.intro (sbits_Set_3 x) (And.intro (sbits_Set_4 x) (sbits_Set_5 x)))))
def zN(x:zS):List IV:=[.int .i64 x.n,.mim (x.body.map (ePr eInt (eP zH)))]
theorem yK(x:zS):Cl1 (zN x):=(zf (zG _ _) rfl (zf (cl_mim (cl_ePr zj (cl_eP zr)) _) rfl yh))
theorem sloops_Loops_0(x:zS):(zN x).length=2:=rfl
theorem sloops_Loops_1(x:zS):(zN x)[0]?=some (.int .i64 x.n):=rfl
theorem sloops_Loops_2(x:zS):(zN x)[1]?=some (.mim (x.body.map (ePr eInt (eP zH)))):=rfl
theorem sloops_Loops_3(x:zS):ipart true 2 0 (zN x)=some (.agg (zN x)):=rfl
theorem sloops_Loops_4(x:zS):(∀v∈zN x,v.one=true)=True:=eq_true fun v h=>(yK x v h).2
theorem sloops_Loops_5(x:zS): ∀o cs,splice (zN x) o cs=splice [.int .i64 x.n,.mim (x.body.map (ePr eInt (eP zH)))] o cs:=fun _ _=>rfl
def zz(x:zS):=And.intro (sloops_Loops_0 x) (And.intro (sloops_Loops_1 x) (And.intro (sloops_Loops_2 x) (And.intro (sloops_Loops_3 x) (And.intro (sloops_Loops_4 x) (sloops_Loops_5 x)))))
def zE(x:zI):List IV:=[.sim (x.succ.map (eS eInt)) false,.sim (x.pred.map (eS eInt)) false]
theorem zv(x:zI):Cl1 (zE x):=(zf (zn (zzO zj) _) rfl (zf (zn (zzO zj) _) rfl yh))
theorem sgraph_Graph_0(x:zI):(zE x).length=2:=rfl
theorem sgraph_Graph_1(x:zI):(zE x)[0]?=some (.sim (x.succ.map (eS eInt)) false):=rfl
theorem sgraph_Graph_2(x:zI):(zE x)[1]?=some (.sim (x.pred.map (eS eInt)) false):=rfl
theorem sgraph_Graph_3(x:zI):ipart true 2 0 (zE x)=some (.agg (zE x)):=rfl
theorem sgraph_Graph_4(x:zI):(∀v∈zE x,v.one=true)=True:=eq_true fun v h=>(zv x v h).2
theorem sgraph_Graph_5(x:zI): ∀o cs,splice (zE x) o cs=splice [.sim (x.succ.map (eS eInt)) false,.sim (x.pred.map (eS eInt)) false] o cs:=fun _ _=>rfl
def yS(x:zI):=And.intro (sgraph_Graph_0 x) (And.intro (sgraph_Graph_1 x) (And.intro (sgraph_Graph_2 x) (And.intro (sgraph_Graph_3 x) (And.intro (sgraph_Graph_4 x) (sgraph_Graph_5 x)))))
def zY(x:dom_Tree):List IV:=[.sim (x.idom.map eInt) false,.sim (x.order.map eInt) false]
theorem yf(x:dom_Tree):Cl1 (zY x):=(zf (zn zj _) rfl (zf (zn zj _) rfl yh))
theorem sdom_Tree_0(x:dom_Tree):(zY x).length=2:=rfl
theorem sdom_Tree_1(x:dom_Tree):(zY x)[0]?=some (.sim (x.idom.map eInt) false):=rfl
theorem sdom_Tree_2(x:dom_Tree):(zY x)[1]?=some (.sim (x.order.map eInt) false):=rfl
theorem sdom_Tree_3(x:dom_Tree):ipart true 2 0 (zY x)=some (.agg (zY x)):=rfl
theorem sdom_Tree_4(x:dom_Tree):(∀v∈zY x,v.one=true)=True:=eq_true fun v h=>(yf x v h).2
theorem sdom_Tree_5(x:dom_Tree): ∀o cs,splice (zY x) o cs=splice [.sim (x.idom.map eInt) false,.sim (x.order.map eInt) false] o cs:=fun _ _=>rfl
def yy(x:dom_Tree):=And.intro (sdom_Tree_0 x) (And.intro (sdom_Tree_1 x) (And.intro (sdom_Tree_2 x) (And.intro (sdom_Tree_3 x) (And.intro (sdom_Tree_4 x) (sdom_Tree_5 x)))))
theorem sA56_0(x:A2 Int):(eA2 eInt x).length=2:=rfl
theorem sA56_1(x:A2 Int):(eA2 eInt x)[0]?=some (.int .i64 x.a0):=rfl
theorem sA56_2(x:A2 Int):(eA2 eInt x)[1]?=some (.int .i64 x.a1):=rfl
theorem sA56_3(x:A2 Int):ipart true 2 0 (eA2 eInt x)=some (.agg (eA2 eInt x)):=rfl
theorem sA56_4(x:A2 Int):(∀v∈eA2 eInt x,v.one=true)=True:=eq_true fun v h=>((cl_eA2 zj) x v h).2
theorem sA56_5(x:A2 Int): ∀o cs,splice (eA2 eInt x) o cs=splice [.int .i64 x.a0,.int .i64 x.a1] o cs:=fun _ _=>rfl
def sA56(x:A2 Int):=And.intro (sA56_0 x) (And.intro (sA56_1 x) (And.intro (sA56_2 x) (And.intro (sA56_3 x) (And.intro (sA56_4 x) (sA56_5 x)))))
theorem sA169_0(x:A2 (List (List Int))):(eA2 (eS (eS eInt)) x).length=2:=rfl
theorem sA169_1(x:A2 (List (List Int))):(eA2 (eS (eS eInt)) x)[0]?=some (.sim (x.a0.map (eS eInt)) false):=rfl
theorem sA169_2(x:A2 (List (List Int))):(eA2 (eS (eS eInt)) x)[1]?=some (.sim (x.a1.map (eS eInt)) false):=rfl
theorem sA169_3(x:A2 (List (List Int))):ipart true 2 0 (eA2 (eS (eS eInt)) x)=some (.agg (eA2 (eS (eS eInt)) x)):=rfl
theorem sA169_4(x:A2 (List (List Int))):(∀v∈eA2 (eS (eS eInt)) x,v.one=true)=True:=eq_true fun v h=>((cl_eA2 (zzO (zzO zj))) x v h).2
theorem sA169_5(x:A2 (List (List Int))): ∀o cs,splice (eA2 (eS (eS eInt)) x) o cs=splice [.sim (x.a0.map (eS eInt)) false,.sim (x.a1.map (eS eInt)) false] o cs:=fun _ _=>rfl
def sA169(x:A2 (List (List Int))):=And.intro (sA169_0 x) (And.intro (sA169_1 x) (And.intro (sA169_2 x) (And.intro (sA169_3 x) (And.intro (sA169_4 x) (sA169_5 x)))))
end Go.Proofs.Ytoojnagdenoknaa.IL
