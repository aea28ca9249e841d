/- The cells of the program's data. Printed by types.py. -/
import Derived.Test.YtmogcnnhbmaffaaGreatILT
import Derived.Test.YtmogcnnhbmaffaaGreatPE0
import Derived.Test.YtmogcnnhbmaffaaGreatPD
set_option linter.unusedVariables false
set_option linter.unusedSimpArgs false
set_option linter.defProp false
set_option maxRecDepth 100000
namespace Go.Proofs.YtmogcnnhbmaffaaGreat.IL
open Go Go.RowKit PL
def eRg(x:Rg):List IV:=[.int .i64 x.id,.int .i64 x.cls]
theorem yzA(x:Rg):Cl1 (eRg x):=(zm (zD _ _) rfl (zm (zD _ _) rfl yk))
theorem sRg_0(x:Rg):(eRg x).length=2:=rfl
theorem sRg_1(x:Rg):(eRg x)[0]?=some (.int .i64 x.id):=rfl
theorem sRg_2(x:Rg):(eRg x)[1]?=some (.int .i64 x.cls):=rfl
theorem sRg_3(x:Rg):ipart true 2 0 (eRg x)=some (.agg (eRg x)):=rfl
theorem sRg_4(x:Rg):(∀v∈eRg x,v.one=true)=True:=eq_true fun v h=>(yzA x v h).2
theorem sRg_5(x:Rg): ∀o cs,splice (eRg x) o cs=splice [.int .i64 x.id,.int .i64 x.cls] o cs:=fun _ _=>rfl
def sRg(x:Rg):=And.intro (sRg_0 x) (And.intro (sRg_1 x) (And.intro (sRg_2 x) (And.intro (sRg_3 x) (And.intro (sRg_4 x) (sRg_5 x)))))
def wRg(x:Rg):Prop:=(Lit.int .i64 x.id).wf=true∧(Lit.int .i64 x.cls).wf=true
def eOpd(x:Opd):List IV:=[.int .i64 x.kind,.int .i64 x.cls,.int .i64 x.n,.int .i64 x.tag]
theorem yR(x:Opd):Cl1 (eOpd x):=(zm (zD _ _) rfl (zm (zD _ _) rfl (zm (zD _ _) rfl (zm (zD _ _) rfl yk))))
theorem sOpd_0(x:Opd):(eOpd x).length=4:=rfl
theorem sOpd_1(x:Opd):(eOpd x)[0]?=some (.int .i64 x.kind):=rfl
theorem sOpd_2(x:Opd):(eOpd x)[1]?=some (.int .i64 x.cls):=rfl
theorem sOpd_3(x:Opd):(eOpd x)[2]?=some (.int .i64 x.n):=rfl
theorem sOpd_4(x:Opd):(eOpd x)[3]?=some (.int .i64 x.tag):=rfl
theorem sOpd_5(x:Opd):ipart true 4 0 (eOpd x)=some (.agg (eOpd x)):=rfl
theorem sOpd_6(x:Opd):(∀v∈eOpd x,v.one=true)=True:=eq_true fun v h=>(yR x v h).2
theorem sOpd_7(x:Opd): ∀o cs,splice (eOpd x) o cs=splice [.int .i64 x.kind,.int .i64 x.cls,.int .i64 x.n,.int .i64 x.tag] o cs:=fun _ _=>rfl
def sOpd(x:Opd):=And.intro (sOpd_0 x) (And.intro (sOpd_1 x) (And.intro (sOpd_2 x) (And.intro (sOpd_3 x) (And.intro (sOpd_4 x) (And.intro (sOpd_5 x) (And.intro (sOpd_6 x) (sOpd_7 x)))))))
theorem qcOpd(a b:Opd):eqCells [.i,.i,.i,.i] (eOpd a) (eOpd b)=some (decide (a=b)):=by
 refine(eqC_i (eqC_i (eqC_i (eqC_i eqC_n)))).trans ?_
 congr 2
 rcases a with ⟨x0,x1,x2,x3⟩
 rcases b with ⟨y0,y1,y2,y3⟩
 simp[and_assoc]
def qOpd{c:Bool}(a b:Opd):=q_agg (c:=c) ty38 rfl rfl (qcOpd a b)
def wOpd(x:Opd):Prop:=(Lit.int .i64 x.kind).wf=true∧(Lit.int .i64 x.cls).wf=true∧(Lit.int .i64 x.n).wf=true∧(Lit.int .i64 x.tag).wf=true
def eIns(x:Ins):List IV:=[.int .i64 x.op,.int .i64 x.dst.kind,.int .i64 x.dst.cls,.int .i64 x.dst.n,.int .i64 x.dst.tag,.sim (x.args.map eOpd) false,.str x.name,.int .i64 x.off,.sim (x.labels.map eStr) false,.sim (x.cases.map eInt) false]
theorem kN(x:Ins):Cl1 (eIns x):=(zm (zD _ _) rfl (zm (zD _ _) rfl (zm (zD _ _) rfl (zm (zD _ _) rfl (zm (zD _ _) rfl (zm (yE yR _) rfl (zm (zT _) rfl (zm (zD _ _) rfl (zm (yE zze _) rfl (zm (yE yj _) rfl yk))))))))))
theorem sIns_0(x:Ins):(eIns x).length=10:=rfl
theorem sIns_1(x:Ins):(eIns x)[0]?=some (.int .i64 x.op):=rfl
theorem sIns_2(x:Ins):(eIns x)[1]?=some (.int .i64 x.dst.kind):=rfl
theorem sIns_3(x:Ins):(eIns x)[2]?=some (.int .i64 x.dst.cls):=rfl
theorem sIns_4(x:Ins):(eIns x)[3]?=some (.int .i64 x.dst.n):=rfl
theorem sIns_5(x:Ins):(eIns x)[4]?=some (.int .i64 x.dst.tag):=rfl
theorem sIns_6(x:Ins):(eIns x)[5]?=some (.sim (x.args.map eOpd) false):=rfl
theorem sIns_7(x:Ins):(eIns x)[6]?=some (.str x.name):=rfl
theorem sIns_8(x:Ins):(eIns x)[7]?=some (.int .i64 x.off):=rfl
theorem sIns_9(x:Ins):(eIns x)[8]?=some (.sim (x.labels.map eStr) false):=rfl
theorem sIns_10(x:Ins):(eIns x)[9]?=some (.sim (x.cases.map eInt) false):=rfl
theorem sIns_11(x:Ins):ipart true 10 0 (eIns x)=some (.agg (eIns x)):=rfl
theorem sIns_12(x:Ins):ipart true 4 1 (eIns x)=some (.agg (eOpd x.dst)):=rfl
theorem sIns_13(x:Ins):(∀v∈eIns x,v.one=true)=True:=eq_true fun v h=>(kN x v h).2
theorem sIns_14(x:Ins): ∀o cs,splice (eIns x) o cs=splice [.int .i64 x.op,.int .i64 x.dst.kind,.int .i64 x.dst.cls,.int .i64 x.dst.n,.int .i64 x.dst.tag,.sim (x.args.map eOpd) false,.str x.name,.int .i64 x.off,.sim (x.labels.map eStr) false,.sim (x.cases.map eInt) false] o cs:=fun _ _=>rfl
def sIns(x:Ins):=And.intro (sIns_0 x) (And.intro (sIns_1 x) (And.intro (sIns_2 x) (And.intro (sIns_3 x) (And.intro (sIns_4 x) (And.intro (sIns_5 x) (And.intro (sIns_6 x) (And.intro (sIns_7 x) (And.intro (sIns_8 x) (And.intro (sIns_9 x) (And.intro (sIns_10 x) (And.intro (sIns_11 x) (And.intro (sIns_12 x) (And.intro (sIns_13 x) (sIns_14 x))))))))))))))
def wIns(x:Ins):Prop:=(Lit.int .i64 x.op).wf=true∧wOpd x.dst∧(∀y∈x.args,wOpd y)∧(Lit.int .i64 x.off).wf=true∧(∀y∈x.cases,(Lit.int .i64 y).wf=true)
def eBl(x:Bl):List IV:=[.str x.label,.bool x.edge,.sim (x.ins.map eOpd) false,.sim (x.code.map eIns) false]
theorem zzH(x:Bl):Cl1 (eBl x):=(zm (zT _) rfl (zm (zF _) rfl (zm (yE yR _) rfl (zm (yE kN _) rfl yk))))
theorem sBl_0(x:Bl):(eBl x).length=4:=rfl
theorem sBl_1(x:Bl):(eBl x)[0]?=some (.str x.label):=rfl
theorem sBl_2(x:Bl):(eBl x)[1]?=some (.bool x.edge):=rfl
theorem sBl_3(x:Bl):(eBl x)[2]?=some (.sim (x.ins.map eOpd) false):=rfl
theorem sBl_4(x:Bl):(eBl x)[3]?=some (.sim (x.code.map eIns) false):=rfl
theorem sBl_5(x:Bl):ipart true 4 0 (eBl x)=some (.agg (eBl x)):=rfl
theorem sBl_6(x:Bl):(∀v∈eBl x,v.one=true)=True:=eq_true fun v h=>(zzH x v h).2
theorem sBl_7(x:Bl): ∀o cs,splice (eBl x) o cs=splice [.str x.label,.bool x.edge,.sim (x.ins.map eOpd) false,.sim (x.code.map eIns) false] o cs:=fun _ _=>rfl
def sBl(x:Bl):=And.intro (sBl_0 x) (And.intro (sBl_1 x) (And.intro (sBl_2 x) (And.intro (sBl_3 x) (And.intro (sBl_4 x) (And.intro (sBl_5 x) (And.intro (sBl_6 x) (sBl_7 x)))))))
def wBl(x:Bl):Prop:=(∀y∈x.ins,wOpd y)∧(∀y∈x.code,wIns y)
def eFnc(x:Fnc):List IV:=[.bool x.machine,.str x.name,.sim (x.regs.map eRg) false,.sim (x.params.map eOpd) false,.sim (x.blocks.map eBl) false]
theorem yZ(x:Fnc):Cl1 (eFnc x):=(zm (zF _) rfl (zm (zT _) rfl (zm (yE yzA _) rfl (zm (yE yR _) rfl (zm (yE zzH _) rfl yk)))))
theorem sFnc_0(x:Fnc):(eFnc x).length=5:=rfl
theorem sFnc_1(x:Fnc):(eFnc x)[0]?=some (.bool x.machine):=rfl
theorem sFnc_2(x:Fnc):(eFnc x)[1]?=some (.str x.name):=rfl
theorem sFnc_3(x:Fnc):(eFnc x)[2]?=some (.sim (x.regs.map eRg) false):=rfl
theorem sFnc_4(x:Fnc):(eFnc x)[3]?=some (.sim (x.params.map eOpd) false):=rfl
theorem sFnc_5(x:Fnc):(eFnc x)[4]?=some (.sim (x.blocks.map eBl) false):=rfl
theorem sFnc_6(x:Fnc):ipart true 5 0 (eFnc x)=some (.agg (eFnc x)):=rfl
theorem sFnc_7(x:Fnc):(∀v∈eFnc x,v.one=true)=True:=eq_true fun v h=>(yZ x v h).2
theorem sFnc_8(x:Fnc): ∀o cs,splice (eFnc x) o cs=splice [.bool x.machine,.str x.name,.sim (x.regs.map eRg) false,.sim (x.params.map eOpd) false,.sim (x.blocks.map eBl) false] o cs:=fun _ _=>rfl
def sFnc(x:Fnc):=And.intro (sFnc_0 x) (And.intro (sFnc_1 x) (And.intro (sFnc_2 x) (And.intro (sFnc_3 x) (And.intro (sFnc_4 x) (And.intro (sFnc_5 x) (And.intro (sFnc_6 x) (And.intro (sFnc_7 x) (sFnc_8 x))))))))
def wFnc(x:Fnc):Prop:=(∀y∈x.regs,wRg y)∧(∀y∈x.params,wOpd y)∧(∀y∈x.blocks,wBl y)
def zR(x:zW):List IV:=[.bool x.f.machine,.str x.f.name,.sim (x.f.regs.map eRg) false,.sim (x.f.params.map eOpd) false,.sim (x.f.blocks.map eBl) false]
theorem yH(x:zW):Cl1 (zR x):=(zm (zF _) rfl (zm (zT _) rfl (zm (yE yzA _) rfl (zm (yE yR _) rfl (zm (yE zzH _) rfl yk)))))
theorem sverify_checker_0(x:zW):(zR x).length=5:=rfl
theorem sverify_checker_1(x:zW):(zR x)[0]?=some (.bool x.f.machine):=rfl
theorem sverify_checker_2(x:zW):(zR x)[1]?=some (.str x.f.name):=rfl
theorem sverify_checker_3(x:zW):(zR x)[2]?=some (.sim (x.f.regs.map eRg) false):=rfl
theorem sverify_checker_4(x:zW):(zR x)[3]?=some (.sim (x.f.params.map eOpd) false):=rfl
theorem sverify_checker_5(x:zW):(zR x)[4]?=some (.sim (x.f.blocks.map eBl) false):=rfl
theorem sverify_checker_6(x:zW):ipart true 5 0 (zR x)=some (.agg (zR x)):=rfl
theorem sverify_checker_7(x:zW):ipart true 5 0 (zR x)=some (.agg (eFnc x.f)):=rfl
theorem sverify_checker_8(x:zW):(∀v∈zR x,v.one=true)=True:=eq_true fun v h=>(yH x v h).2
theorem sverify_checker_9(x:zW): ∀o cs,splice (zR x) o cs=splice [.bool x.f.machine,.str x.f.name,.sim (x.f.regs.map eRg) false,.sim (x.f.params.map eOpd) false,.sim (x.f.blocks.map eBl) false] o cs:=fun _ _=>rfl
def zl(x:zW):=And.intro (sverify_checker_0 x) (And.intro (sverify_checker_1 x) (And.intro (sverify_checker_2 x) (And.intro (sverify_checker_3 x) (And.intro (sverify_checker_4 x) (And.intro (sverify_checker_5 x) (And.intro (sverify_checker_6 x) (And.intro (sverify_checker_7 x) (And.intro (sverify_checker_8 x) (sverify_checker_9 x)))))))))
def yo(x:zn):List IV:=[.fn (.func x.look) [] []]
theorem zzg(x:zn):Cl1 (yo x):=(zm (zzC _) rfl yk)
theorem sverify_rule_0(x:zn):(yo x).length=1:=rfl
theorem sverify_rule_1(x:zn):(yo x)[0]?=some (.fn (.func x.look) [] []):=rfl
theorem sverify_rule_2(x:zn):ipart true 1 0 (yo x)=some (.agg (yo x)):=rfl
theorem sverify_rule_3(x:zn):(∀v∈yo x,v.one=true)=True:=eq_true fun v h=>(zzg x v h).2
theorem sverify_rule_4(x:zn): ∀o cs,splice (yo x) o cs=splice [.fn (.func x.look) [] []] o cs:=fun _ _=>rfl
def zzV(x:zn):=And.intro (sverify_rule_0 x) (And.intro (sverify_rule_1 x) (And.intro (sverify_rule_2 x) (And.intro (sverify_rule_3 x) (sverify_rule_4 x))))
def zj(x:zd):List IV:=[.int .i64 x.code,.int .i64 x.block,.int .i64 x.i]
theorem zy(x:zd):Cl1 (zj x):=(zm (zD _ _) rfl (zm (zD _ _) rfl (zm (zD _ _) rfl yk)))
theorem sverify_fault_0(x:zd):(zj x).length=3:=rfl
theorem sverify_fault_1(x:zd):(zj x)[0]?=some (.int .i64 x.code):=rfl
theorem sverify_fault_2(x:zd):(zj x)[1]?=some (.int .i64 x.block):=rfl
theorem sverify_fault_3(x:zd):(zj x)[2]?=some (.int .i64 x.i):=rfl
theorem sverify_fault_4(x:zd):ipart true 3 0 (zj x)=some (.agg (zj x)):=rfl
theorem sverify_fault_5(x:zd):(∀v∈zj x,v.one=true)=True:=eq_true fun v h=>(zy x v h).2
theorem sverify_fault_6(x:zd): ∀o cs,splice (zj x) o cs=splice [.int .i64 x.code,.int .i64 x.block,.int .i64 x.i] o cs:=fun _ _=>rfl
def zi(x:zd):=And.intro (sverify_fault_0 x) (And.intro (sverify_fault_1 x) (And.intro (sverify_fault_2 x) (And.intro (sverify_fault_3 x) (And.intro (sverify_fault_4 x) (And.intro (sverify_fault_5 x) (sverify_fault_6 x))))))
def zo(x:zI):List IV:=[.str x.name,.str x.dst,.sim (x.args.map eStr) false,.int .i64 x.labels,.bool x.alone]
theorem kC(x:zI):Cl1 (zo x):=(zm (zT _) rfl (zm (zT _) rfl (zm (yE zze _) rfl (zm (zD _ _) rfl (zm (zF _) rfl yk)))))
theorem zzr(x:zI):(zo x).length=5:=rfl
theorem zzq(x:zI):(zo x)[0]?=some (.str x.name):=rfl
theorem zzp(x:zI):(zo x)[1]?=some (.str x.dst):=rfl
theorem zzo(x:zI):(zo x)[2]?=some (.sim (x.args.map eStr) false):=rfl
theorem zzn(x:zI):(zo x)[3]?=some (.int .i64 x.labels):=rfl
theorem zzm(x:zI):(zo x)[4]?=some (.bool x.alone):=rfl
theorem zzl(x:zI):ipart true 5 0 (zo x)=some (.agg (zo x)):=rfl
theorem zzk(x:zI):(∀v∈zo x,v.one=true)=True:=eq_true fun v h=>(kC x v h).2
theorem zzj(x:zI): ∀o cs,splice (zo x) o cs=splice [.str x.name,.str x.dst,.sim (x.args.map eStr) false,.int .i64 x.labels,.bool x.alone] o cs:=fun _ _=>rfl
def zh(x:zI):=And.intro (zzr x) (And.intro (zzq x) (And.intro (zzp x) (And.intro (zzo x) (And.intro (zzn x) (And.intro (zzm x) (And.intro (zzl x) (And.intro (zzk x) (zzj x))))))))
def zg(x:zq):List IV:=[.sim (x.succ.map (eS eInt)) false,.sim (x.pred.map (eS eInt)) false]
theorem yl(x:zq):Cl1 (zg x):=(zm (yE (cl_eS yj) _) rfl (zm (yE (cl_eS yj) _) rfl yk))
theorem sgraph_Graph_0(x:zq):(zg x).length=2:=rfl
theorem sgraph_Graph_1(x:zq):(zg x)[0]?=some (.sim (x.succ.map (eS eInt)) false):=rfl
theorem sgraph_Graph_2(x:zq):(zg x)[1]?=some (.sim (x.pred.map (eS eInt)) false):=rfl
theorem sgraph_Graph_3(x:zq):ipart true 2 0 (zg x)=some (.agg (zg x)):=rfl
theorem sgraph_Graph_4(x:zq):(∀v∈zg x,v.one=true)=True:=eq_true fun v h=>(yl x v h).2
theorem sgraph_Graph_5(x:zq): ∀o cs,splice (zg x) o cs=splice [.sim (x.succ.map (eS eInt)) false,.sim (x.pred.map (eS eInt)) false] o cs:=fun _ _=>rfl
def ka(x:zq):=And.intro (sgraph_Graph_0 x) (And.intro (sgraph_Graph_1 x) (And.intro (sgraph_Graph_2 x) (And.intro (sgraph_Graph_3 x) (And.intro (sgraph_Graph_4 x) (sgraph_Graph_5 x)))))
def zf(x:zJ):List IV:=[.int .i64 x.n,.sim (x.words.map (eI .u64)) false]
theorem kM(x:zJ):Cl1 (zf x):=(zm (zD _ _) rfl (zm (yE (cl_eI .u64) _) rfl yk))
theorem sbits_Set_0(x:zJ):(zf x).length=2:=rfl
theorem sbits_Set_1(x:zJ):(zf x)[0]?=some (.int .i64 x.n):=rfl
theorem sbits_Set_2(x:zJ):(zf x)[1]?=some (.sim (x.words.map (eI .u64)) false):=rfl
theorem sbits_Set_3(x:zJ):ipart true 2 0 (zf x)=some (.agg (zf x)):=rfl
theorem sbits_Set_4(x:zJ):(∀v∈zf x,v.one=true)=True:=eq_true fun v h=>(kM x v h).2
theorem sbits_Set_5(x:zJ): ∀o cs,splice (zf x) o cs=splice [.int .i64 x.n,.sim (x.words.map (eI .u64)) false] o cs:=fun _ _=>rfl
def zzB(x:zJ):=And.intro (sbits_Set_0 x) (And.intro (sbits_Set_1 x) (And.intro (sbits_Set_2 x) (And.intro (sbits_Set_3 x) (And.intro (sbits_Set_4 x) (sbits_Set_5 x)))))
def zk(x:zL):List IV:=[.bool x.f.machine,.str x.f.name,.sim (x.f.regs.map eRg) false,.sim (x.f.params.map eOpd) false,.sim (x.f.blocks.map eBl) false,.sim (x.ids.map eInt) false,.sim (x.in_.map (eP zf)) false]
theorem km(x:zL):Cl1 (zk x):=(zm (zF _) rfl (zm (zT _) rfl (zm (yE yzA _) rfl (zm (yE yR _) rfl (zm (yE zzH _) rfl (zm (yE yj _) rfl (zm (yE (cl_eP kM) _) rfl yk)))))))
theorem sassign_Known_0(x:zL):(zk x).length=7:=rfl
theorem sassign_Known_1(x:zL):(zk x)[0]?=some (.bool x.f.machine):=rfl
theorem sassign_Known_2(x:zL):(zk x)[1]?=some (.str x.f.name):=rfl
theorem sassign_Known_3(x:zL):(zk x)[2]?=some (.sim (x.f.regs.map eRg) false):=rfl
theorem sassign_Known_4(x:zL):(zk x)[3]?=some (.sim (x.f.params.map eOpd) false):=rfl
theorem sassign_Known_5(x:zL):(zk x)[4]?=some (.sim (x.f.blocks.map eBl) false):=rfl
theorem sassign_Known_6(x:zL):(zk x)[5]?=some (.sim (x.ids.map eInt) false):=rfl
theorem sassign_Known_7(x:zL):(zk x)[6]?=some (.sim (x.in_.map (eP zf)) false):=rfl
theorem sassign_Known_8(x:zL):ipart true 7 0 (zk x)=some (.agg (zk x)):=rfl
theorem sassign_Known_9(x:zL):ipart true 5 0 (zk x)=some (.agg (eFnc x.f)):=rfl
theorem sassign_Known_10(x:zL):(∀v∈zk x,v.one=true)=True:=eq_true fun v h=>(km x v h).2
theorem sassign_Known_11(x:zL): ∀o cs,splice (zk x) o cs=splice [.bool x.f.machine,.str x.f.name,.sim (x.f.regs.map eRg) false,.sim (x.f.params.map eOpd) false,.sim (x.f.blocks.map eBl) false,.sim (x.ids.map eInt) false,.sim (x.in_.map (eP zf)) false] o cs:=fun _ _=>rfl
def ko(x:zL):=And.intro (sassign_Known_0 x) (And.intro (sassign_Known_1 x) (And.intro (sassign_Known_2 x) (And.intro (sassign_Known_3 x) (And.intro (sassign_Known_4 x) (And.intro (sassign_Known_5 x) (And.intro (sassign_Known_6 x) (And.intro (sassign_Known_7 x) (And.intro (sassign_Known_8 x) (And.intro (sassign_Known_9 x) (And.intro (sassign_Known_10 x) (sassign_Known_11 x)))))))))))
def yr(x:yN):List IV:=[.str x.name,.int .i64 x.dst,.int .i64 x.args.a0,.int .i64 x.args.a1,.int .i64 x.labels,.bool x.machine]
theorem cl_eop_row(x:yN):Cl1 (yr x):=(zm (zT _) rfl (zm (zD _ _) rfl (zm (zD _ _) rfl (zm (zD _ _) rfl (zm (zD _ _) rfl (zm (zF _) rfl yk))))))
theorem sop_row_0(x:yN):(yr x).length=6:=rfl
theorem sop_row_1(x:yN):(yr x)[0]?=some (.str x.name):=rfl
theorem sop_row_2(x:yN):(yr x)[1]?=some (.int .i64 x.dst):=rfl
theorem sop_row_3(x:yN):(yr x)[2]?=some (.int .i64 x.args.a0):=rfl
theorem sop_row_4(x:yN):(yr x)[3]?=some (.int .i64 x.args.a1):=rfl
theorem sop_row_5(x:yN):(yr x)[4]?=some (.int .i64 x.labels):=rfl
theorem sop_row_6(x:yN):(yr x)[5]?=some (.bool x.machine):=rfl
theorem sop_row_7(x:yN):ipart true 6 0 (yr x)=some (.agg (yr x)):=rfl
theorem sop_row_8(x:yN):ipart true 2 2 (yr x)=some (.agg (eA2 eInt x.args)):=rfl
theorem sop_row_9(x:yN):(∀v∈yr x,v.one=true)=True:=eq_true fun v h=>(cl_eop_row x v h).2
theorem sop_row_10(x:yN): ∀o cs,splice (yr x) o cs=splice [.str x.name,.int .i64 x.dst,.int .i64 x.args.a0,.int .i64 x.args.a1,.int .i64 x.labels,.bool x.machine] o cs:=fun _ _=>rfl
def ym(x:yN):=And.intro (sop_row_0 x) (And.intro (sop_row_1 x) (And.intro (sop_row_2 x) (And.intro (sop_row_3 x) (And.intro (sop_row_4 x) (And.intro (sop_row_5 x) (And.intro (sop_row_6 x) (And.intro (sop_row_7 x) (And.intro (sop_row_8 x) (And.intro (sop_row_9 x) (sop_row_10 x))))))))))
theorem sA80_0(x:A2 Int):(eA2 eInt x).length=2:=rfl
theorem sA80_1(x:A2 Int):(eA2 eInt x)[0]?=some (.int .i64 x.a0):=rfl
theorem sA80_2(x:A2 Int):(eA2 eInt x)[1]?=some (.int .i64 x.a1):=rfl
theorem sA80_3(x:A2 Int):ipart true 2 0 (eA2 eInt x)=some (.agg (eA2 eInt x)):=rfl
theorem sA80_4(x:A2 Int):(∀v∈eA2 eInt x,v.one=true)=True:=eq_true fun v h=>((cl_eA2 yj) x v h).2
theorem sA80_5(x:A2 Int): ∀o cs,splice (eA2 eInt x) o cs=splice [.int .i64 x.a0,.int .i64 x.a1] o cs:=fun _ _=>rfl
def sA80(x:A2 Int):=And.intro (sA80_0 x) (And.intro (sA80_1 x) (And.intro (sA80_2 x) (And.intro (sA80_3 x) (And.intro (sA80_4 x) (sA80_5 x)))))
end Go.Proofs.YtmogcnnhbmaffaaGreat.IL
