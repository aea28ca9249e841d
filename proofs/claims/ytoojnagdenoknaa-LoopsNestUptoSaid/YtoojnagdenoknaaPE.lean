/- The cells of the program's data. Printed by types.py. -/
import Derived.Test.YtoojnagdenoknaaILT
import Derived.Test.YtoojnagdenoknaaPE0
import Derived.Test.YtoojnagdenoknaaPD
set_option linter.unusedSectionVars false
set_option linter.unnecessarySimpa false
set_option linter.unusedVariables false
set_option linter.unusedSimpArgs false
set_option linter.defProp false
set_option maxRecDepth 100000
namespace Go.Proofs.Ytoojnagdenoknaa.IL
open Go Go.RowKit PL
def eRg(x:Rg):List IV:=[.int .i64 x.id,.int .i64 x.cls]
theorem cl_eRg(x:Rg):Cl1 (eRg x):=(zX (zG _ _) rfl (zX (zG _ _) rfl ya))
def wRg(x:Rg):Prop:=(Lit.int .i64 x.id).wf=true∧(Lit.int .i64 x.cls).wf=true
def eOpd(x:Opd):List IV:=[.int .i64 x.kind,.int .i64 x.cls,.int .i64 x.n,.int .i64 x.tag]
theorem cl_eOpd(x:Opd):Cl1 (eOpd x):=(zX (zG _ _) rfl (zX (zG _ _) rfl (zX (zG _ _) rfl (zX (zG _ _) rfl ya))))
def wOpd(x:Opd):Prop:=(Lit.int .i64 x.kind).wf=true∧(Lit.int .i64 x.cls).wf=true∧(Lit.int .i64 x.n).wf=true∧(Lit.int .i64 x.tag).wf=true
def eIns(x:Ins):List IV:=[.int .i64 x.op,.int .i64 x.dst.kind,.int .i64 x.dst.cls,.int .i64 x.dst.n,.int .i64 x.dst.tag,.sim (x.args.map eOpd) false,.str x.name,.int .i64 x.off,.sim (x.labels.map eStr) false,.sim (x.cases.map eInt) false]
theorem cl_eIns(x:Ins):Cl1 (eIns x):=(zX (zG _ _) rfl (zX (zG _ _) rfl (zX (zG _ _) rfl (zX (zG _ _) rfl (zX (zG _ _) rfl (zX (zp cl_eOpd _) rfl (zX (yS _) rfl (zX (zG _ _) rfl (zX (zp cl_eStr _) rfl (zX (zp zm _) rfl ya))))))))))
theorem sIns_0(x:Ins):(eIns x).length=10:=rfl
theorem sIns_1(x:Ins):(eIns x)[0]?=some (.int .i64 x.op):=rfl
theorem sIns_2(x:Ins):(eIns x)[1]?=some (.int .i64 x.dst.kind):=rfl
theorem sIns_3(x:Ins):(eIns x)[2]?=some (.int .i64 x.dst.cls):=rfl
theorem sIns_4(x:Ins):(eIns x)[3]?=some (.int .i64 x.dst.n):=rfl
theorem sIns_5(x:Ins):(eIns x)[4]?=some (.int .i64 x.dst.tag):=rfl
theorem sIns_6(x:Ins):(eIns x)[5]?=some (.sim (x.args.map eOpd) false):=rfl
theorem sIns_7(x:Ins):(eIns x)[6]?=some (.str x.name):=rfl
theorem sIns_8(x:Ins):(eIns x)[7]?=some (.int .i64 x.off):=rfl
theorem sIns_9(x:Ins):(eIns x)[8]?=some (.sim (x.labels.map eStr) false):=rfl
theorem sIns_10(x:Ins):(eIns x)[9]?=some (.sim (x.cases.map eInt) false):=rfl
theorem sIns_11(x:Ins):ipart true 10 0 (eIns x)=some (.agg (eIns x)):=rfl
theorem sIns_12(x:Ins):ipart true 4 1 (eIns x)=some (.agg (eOpd x.dst)):=rfl
theorem sIns_13(x:Ins):(∀v∈eIns x,v.one=true)=True:=eq_true fun v h=>(cl_eIns x v h).2
theorem sIns_14(x:Ins): ∀o cs,splice (eIns x) o cs=splice [.int .i64 x.op,.int .i64 x.dst.kind,.int .i64 x.dst.cls,.int .i64 x.dst.n,.int .i64 x.dst.tag,.sim (x.args.map eOpd) false,.str x.name,.int .i64 x.off,.sim (x.labels.map eStr) false,.sim (x.cases.map eInt) false] o cs:=fun _ _=>rfl
def sIns(x:Ins):=And.intro (sIns_0 x) (And.intro (sIns_1 x) (And.intro (sIns_2 x) (And.intro (sIns_3 x) (And.intro (sIns_4 x) (And.intro (sIns_5 x) (And.intro (sIns_6 x) (And.intro (sIns_7 x) (And.intro (sIns_8 x) (And.intro (sIns_9 x) (And.intro (sIns_10 x) (And.intro (sIns_11 x) (And.intro (sIns_12 x) (And.intro (sIns_13 x) (sIns_14 x))))))))))))))
def wIns(x:Ins):Prop:=(Lit.int .i64 x.op).wf=true∧wOpd x.dst∧(∀y∈x.args,wOpd y)∧(Lit.int .i64 x.off).wf=true∧(∀y∈x.cases,(Lit.int .i64 y).wf=true)
def eBl(x:Bl):List IV:=[.str x.label,.bool x.edge,.sim (x.ins.map eOpd) false,.sim (x.code.map eIns) false]
theorem kq(x:Bl):Cl1 (eBl x):=(zX (yS _) rfl (zX (zh _) rfl (zX (zp cl_eOpd _) rfl (zX (zp cl_eIns _) rfl ya))))
theorem sBl_0(x:Bl):(eBl x).length=4:=rfl
theorem sBl_1(x:Bl):(eBl x)[0]?=some (.str x.label):=rfl
theorem sBl_2(x:Bl):(eBl x)[1]?=some (.bool x.edge):=rfl
theorem sBl_3(x:Bl):(eBl x)[2]?=some (.sim (x.ins.map eOpd) false):=rfl
theorem sBl_4(x:Bl):(eBl x)[3]?=some (.sim (x.code.map eIns) false):=rfl
theorem sBl_5(x:Bl):ipart true 4 0 (eBl x)=some (.agg (eBl x)):=rfl
theorem sBl_6(x:Bl):(∀v∈eBl x,v.one=true)=True:=eq_true fun v h=>(kq x v h).2
theorem sBl_7(x:Bl): ∀o cs,splice (eBl x) o cs=splice [.str x.label,.bool x.edge,.sim (x.ins.map eOpd) false,.sim (x.code.map eIns) false] o cs:=fun _ _=>rfl
def sBl(x:Bl):=And.intro (sBl_0 x) (And.intro (sBl_1 x) (And.intro (sBl_2 x) (And.intro (sBl_3 x) (And.intro (sBl_4 x) (And.intro (sBl_5 x) (And.intro (sBl_6 x) (sBl_7 x)))))))
def wBl(x:Bl):Prop:=(∀y∈x.ins,wOpd y)∧(∀y∈x.code,wIns y)
def eFnc(x:Fnc):List IV:=[.bool x.machine,.str x.name,.sim (x.regs.map eRg) false,.sim (x.params.map eOpd) false,.sim (x.blocks.map eBl) false]
theorem cl_eFnc(x:Fnc):Cl1 (eFnc x):=(zX (zh _) rfl (zX (yS _) rfl (zX (zp cl_eRg _) rfl (zX (zp cl_eOpd _) rfl (zX (zp kq _) rfl ya)))))
theorem sFnc_0(x:Fnc):(eFnc x).length=5:=rfl
theorem sFnc_1(x:Fnc):(eFnc x)[0]?=some (.bool x.machine):=rfl
theorem sFnc_2(x:Fnc):(eFnc x)[1]?=some (.str x.name):=rfl
theorem sFnc_3(x:Fnc):(eFnc x)[2]?=some (.sim (x.regs.map eRg) false):=rfl
theorem sFnc_4(x:Fnc):(eFnc x)[3]?=some (.sim (x.params.map eOpd) false):=rfl
theorem sFnc_5(x:Fnc):(eFnc x)[4]?=some (.sim (x.blocks.map eBl) false):=rfl
theorem sFnc_6(x:Fnc):ipart true 5 0 (eFnc x)=some (.agg (eFnc x)):=rfl
theorem sFnc_7(x:Fnc):(∀v∈eFnc x,v.one=true)=True:=eq_true fun v h=>(cl_eFnc x v h).2
theorem sFnc_8(x:Fnc): ∀o cs,splice (eFnc x) o cs=splice [.bool x.machine,.str x.name,.sim (x.regs.map eRg) false,.sim (x.params.map eOpd) false,.sim (x.blocks.map eBl) false] o cs:=fun _ _=>rfl
def sFnc(x:Fnc):=And.intro (sFnc_0 x) (And.intro (sFnc_1 x) (And.intro (sFnc_2 x) (And.intro (sFnc_3 x) (And.intro (sFnc_4 x) (And.intro (sFnc_5 x) (And.intro (sFnc_6 x) (And.intro (sFnc_7 x) (sFnc_8 x))))))))
def wFnc(x:Fnc):Prop:=(∀y∈x.regs,wRg y)∧(∀y∈x.params,wOpd y)∧(∀y∈x.blocks,wBl y)
def zH(x:zC):List IV:=[.int .i64 x.n,.sim (x.words.map (eI .u64)) false]
theorem zo(x:zC):Cl1 (zH x):=(zX (zG _ _) rfl (zX (zp (cl_eI .u64) _) rfl ya))
theorem sbits_Set_0(x:zC):(zH x).length=2:=rfl
theorem sbits_Set_1(x:zC):(zH x)[0]?=some (.int .i64 x.n):=rfl
theorem sbits_Set_2(x:zC):(zH x)[1]?=some (.sim (x.words.map (eI .u64)) false):=rfl
theorem sbits_Set_3(x:zC):ipart true 2 0 (zH x)=some (.agg (zH x)):=rfl
theorem sbits_Set_4(x:zC):(∀v∈zH x,v.one=true)=True:=eq_true fun v h=>(zo x v h).2
theorem sbits_Set_5(x:zC): ∀o cs,splice (zH x) o cs=splice [.int .i64 x.n,.sim (x.words.map (eI .u64)) false] o cs:=fun _ _=>rfl
def yk(x:zC):=And.intro (sbits_Set_0 x) (And.intro (sbits_Set_1 x) (And.intro (sbits_Set_2 x) (And.intro (sbits_Set_3 x) (And.intro (sbits_Set_4 x) (sbits_Set_5 x)))))
def zJ(x:zM):List IV:=[.int .i64 x.n,.mim (x.body.map (ePr eInt (eP zH)))]
theorem yI(x:zM):Cl1 (zJ x):=(zX (zG _ _) rfl (zX (cl_mim (cl_ePr zm (cl_eP zo)) _) rfl ya))
theorem sloops_Loops_0(x:zM):(zJ x).length=2:=rfl
theorem sloops_Loops_1(x:zM):(zJ x)[0]?=some (.int .i64 x.n):=rfl
theorem sloops_Loops_2(x:zM):(zJ x)[1]?=some (.mim (x.body.map (ePr eInt (eP zH)))):=rfl
theorem sloops_Loops_3(x:zM):ipart true 2 0 (zJ x)=some (.agg (zJ x)):=rfl
theorem sloops_Loops_4(x:zM):(∀v∈zJ x,v.one=true)=True:=eq_true fun v h=>(yI x v h).2
theorem sloops_Loops_5(x:zM): ∀o cs,splice (zJ x) o cs=splice [.int .i64 x.n,.mim (x.body.map (ePr eInt (eP zH)))] o cs:=fun _ _=>rfl
def zz(x:zM):=And.intro (sloops_Loops_0 x) (And.intro (sloops_Loops_1 x) (And.intro (sloops_Loops_2 x) (And.intro (sloops_Loops_3 x) (And.intro (sloops_Loops_4 x) (sloops_Loops_5 x)))))
def zE(x:zI):List IV:=[.sim (x.succ.map (eS eInt)) false,.sim (x.pred.map (eS eInt)) false]
theorem zu(x:zI):Cl1 (zE x):=(zX (zp (cl_eS zm) _) rfl (zX (zp (cl_eS zm) _) rfl ya))
theorem sgraph_Graph_0(x:zI):(zE x).length=2:=rfl
theorem sgraph_Graph_1(x:zI):(zE x)[0]?=some (.sim (x.succ.map (eS eInt)) false):=rfl
theorem sgraph_Graph_2(x:zI):(zE x)[1]?=some (.sim (x.pred.map (eS eInt)) false):=rfl
theorem sgraph_Graph_3(x:zI):ipart true 2 0 (zE x)=some (.agg (zE x)):=rfl
theorem sgraph_Graph_4(x:zI):(∀v∈zE x,v.one=true)=True:=eq_true fun v h=>(zu x v h).2
theorem sgraph_Graph_5(x:zI): ∀o cs,splice (zE x) o cs=splice [.sim (x.succ.map (eS eInt)) false,.sim (x.pred.map (eS eInt)) false] o cs:=fun _ _=>rfl
def yQ(x:zI):=And.intro (sgraph_Graph_0 x) (And.intro (sgraph_Graph_1 x) (And.intro (sgraph_Graph_2 x) (And.intro (sgraph_Graph_3 x) (And.intro (sgraph_Graph_4 x) (sgraph_Graph_5 x)))))
def zR(x:dom_Tree):List IV:=[.sim (x.idom.map eInt) false,.sim (x.order.map eInt) false]
theorem yY(x:dom_Tree):Cl1 (zR x):=(zX (zp zm _) rfl (zX (zp zm _) rfl ya))
theorem sdom_Tree_0(x:dom_Tree):(zR x).length=2:=rfl
theorem sdom_Tree_1(x:dom_Tree):(zR x)[0]?=some (.sim (x.idom.map eInt) false):=rfl
theorem sdom_Tree_2(x:dom_Tree):(zR x)[1]?=some (.sim (x.order.map eInt) false):=rfl
theorem sdom_Tree_3(x:dom_Tree):ipart true 2 0 (zR x)=some (.agg (zR x)):=rfl
theorem sdom_Tree_4(x:dom_Tree):(∀v∈zR x,v.one=true)=True:=eq_true fun v h=>(yY x v h).2
theorem sdom_Tree_5(x:dom_Tree): ∀o cs,splice (zR x) o cs=splice [.sim (x.idom.map eInt) false,.sim (x.order.map eInt) false] o cs:=fun _ _=>rfl
def yw(x:dom_Tree):=And.intro (sdom_Tree_0 x) (And.intro (sdom_Tree_1 x) (And.intro (sdom_Tree_2 x) (And.intro (sdom_Tree_3 x) (And.intro (sdom_Tree_4 x) (sdom_Tree_5 x)))))
theorem sA56_0(x:A2 Int):(eA2 eInt x).length=2:=rfl
theorem sA56_1(x:A2 Int):(eA2 eInt x)[0]?=some (.int .i64 x.a0):=rfl
theorem sA56_2(x:A2 Int):(eA2 eInt x)[1]?=some (.int .i64 x.a1):=rfl
theorem sA56_3(x:A2 Int):ipart true 2 0 (eA2 eInt x)=some (.agg (eA2 eInt x)):=rfl
theorem sA56_4(x:A2 Int):(∀v∈eA2 eInt x,v.one=true)=True:=eq_true fun v h=>((cl_eA2 zm) x v h).2
theorem sA56_5(x:A2 Int): ∀o cs,splice (eA2 eInt x) o cs=splice [.int .i64 x.a0,.int .i64 x.a1] o cs:=fun _ _=>rfl
def sA56(x:A2 Int):=And.intro (sA56_0 x) (And.intro (sA56_1 x) (And.intro (sA56_2 x) (And.intro (sA56_3 x) (And.intro (sA56_4 x) (sA56_5 x)))))
theorem sA169_0(x:A2 (List (List Int))):(eA2 (eS (eS eInt)) x).length=2:=rfl
theorem sA169_1(x:A2 (List (List Int))):(eA2 (eS (eS eInt)) x)[0]?=some (.sim (x.a0.map (eS eInt)) false):=rfl
theorem sA169_2(x:A2 (List (List Int))):(eA2 (eS (eS eInt)) x)[1]?=some (.sim (x.a1.map (eS eInt)) false):=rfl
theorem sA169_3(x:A2 (List (List Int))):ipart true 2 0 (eA2 (eS (eS eInt)) x)=some (.agg (eA2 (eS (eS eInt)) x)):=rfl
theorem sA169_4(x:A2 (List (List Int))):(∀v∈eA2 (eS (eS eInt)) x,v.one=true)=True:=eq_true fun v h=>((cl_eA2 (cl_eS (cl_eS zm))) x v h).2
theorem sA169_5(x:A2 (List (List Int))): ∀o cs,splice (eA2 (eS (eS eInt)) x) o cs=splice [.sim (x.a0.map (eS eInt)) false,.sim (x.a1.map (eS eInt)) false] o cs:=fun _ _=>rfl
def sA169(x:A2 (List (List Int))):=And.intro (sA169_0 x) (And.intro (sA169_1 x) (And.intro (sA169_2 x) (And.intro (sA169_3 x) (And.intro (sA169_4 x) (sA169_5 x)))))
end Go.Proofs.Ytoojnagdenoknaa.IL
