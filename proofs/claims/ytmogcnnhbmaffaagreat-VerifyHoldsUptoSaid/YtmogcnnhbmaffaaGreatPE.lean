/- The cells of the program's data. Printed by types.py. -/
import Derived.Test.YtmogcnnhbmaffaaGreatILT
import Derived.Test.YtmogcnnhbmaffaaGreatPE0
import Derived.Test.YtmogcnnhbmaffaaGreatPD
set_option linter.unusedVariables false
set_option linter.unusedSimpArgs false
set_option linter.defProp false
set_option maxRecDepth 100000
namespace Go.Proofs.YtmogcnnhbmaffaaGreat.IL
open Go Go.RowKit PL
def eRg(x:Rg):List IV:=[.int .i64 x.id,.int .i64 x.cls]
theorem zzu(x:Rg):Cl1 (eRg x):=(zk (zD _ _) rfl (zk (zD _ _) rfl yf))
theorem sRg_0(x:Rg):(eRg x).length=2:=rfl
theorem sRg_1(x:Rg):(eRg x)[0]?=some (.int .i64 x.id):=rfl
theorem sRg_2(x:Rg):(eRg x)[1]?=some (.int .i64 x.cls):=rfl
theorem sRg_3(x:Rg):ipart true 2 0 (eRg x)=some (.agg (eRg x)):=rfl
theorem sRg_4(x:Rg):(∀v∈eRg x,v.one=true)=True:=eq_true fun v h=>(zzu x v h).2
theorem sRg_5(x:Rg): ∀o cs,splice (eRg x) o cs=splice [.int .i64 x.id,.int .i64 x.cls] o cs:=fun _ _=>rfl
def sRg(x:Rg):=And.intro (sRg_0 x) (And.intro (sRg_1 x) (And.intro (sRg_2 x) (And.intro (sRg_3 x) (And.intro (sRg_4 x) (sRg_5 x)))))
def wRg(x:Rg):Prop:=(Lit.int .i64 x.id).wf=true∧(Lit.int .i64 x.cls).wf=true
def eOpd(x:Opd):List IV:=[.int .i64 x.kind,.int .i64 x.cls,.int .i64 x.n,.int .i64 x.tag]
theorem yR(x:Opd):Cl1 (eOpd x):=(zk (zD _ _) rfl (zk (zD _ _) rfl (zk (zD _ _) rfl (zk (zD _ _) rfl yf))))
theorem sOpd_0(x:Opd):(eOpd x).length=4:=rfl
theorem sOpd_1(x:Opd):(eOpd x)[0]?=some (.int .i64 x.kind):=rfl
theorem sOpd_2(x:Opd):(eOpd x)[1]?=some (.int .i64 x.cls):=rfl
theorem sOpd_3(x:Opd):(eOpd x)[2]?=some (.int .i64 x.n):=rfl
theorem sOpd_4(x:Opd):(eOpd x)[3]?=some (.int .i64 x.tag):=rfl
theorem sOpd_5(x:Opd):ipart true 4 0 (eOpd x)=some (.agg (eOpd x)):=rfl
theorem sOpd_6(x:Opd):(∀v∈eOpd x,v.one=true)=True:=eq_true fun v h=>(yR x v h).2
theorem sOpd_7(x:Opd): ∀o cs,splice (eOpd x) o cs=splice [.int .i64 x.kind,.int .i64 x.cls,.int .i64 x.n,.int .i64 x.tag] o cs:=fun _ _=>rfl
def sOpd(x:Opd):=And.intro (sOpd_0 x) (And.intro (sOpd_1 x) (And.intro (sOpd_2 x) (And.intro (sOpd_3 x) (And.intro (sOpd_4 x) (And.intro (sOpd_5 x) (And.intro (sOpd_6 x) (sOpd_7 x)))))))
theorem qcOpd(a b:Opd):eqCells [.i,.i,.i,.i] (eOpd a) (eOpd b)=some (decide (a=b)):=by
 refine(eqC_i (eqC_i (eqC_i (eqC_i eqC_n)))).trans ?_
 congr 2
 rcases a with ⟨x0,x1,x2,x3⟩
 rcases b with ⟨y0,y1,y2,y3⟩
 simp[and_assoc]
def qOpd{c:Bool}(a b:Opd):=q_agg (c:=c) ty38 rfl rfl (qcOpd a b)
def wOpd(x:Opd):Prop:=(Lit.int .i64 x.kind).wf=true∧(Lit.int .i64 x.cls).wf=true∧(Lit.int .i64 x.n).wf=true∧(Lit.int .i64 x.tag).wf=true
def eIns(x:Ins):List IV:=[.int .i64 x.op,.int .i64 x.dst.kind,.int .i64 x.dst.cls,.int .i64 x.dst.n,.int .i64 x.dst.tag,.sim (x.args.map eOpd) false,.str x.name,.int .i64 x.off,.sim (x.labels.map eStr) false,.sim (x.cases.map eInt) false]
theorem ke(x:Ins):Cl1 (eIns x):=(zk (zD _ _) rfl (zk (zD _ _) rfl (zk (zD _ _) rfl (zk (zD _ _) rfl (zk (zD _ _) rfl (zk (yC yR _) rfl (zk (zS _) rfl (zk (zD _ _) rfl (zk (yC zzY _) rfl (zk (yC ye _) rfl yf))))))))))
theorem sIns_0(x:Ins):(eIns x).length=10:=rfl
theorem sIns_1(x:Ins):(eIns x)[0]?=some (.int .i64 x.op):=rfl
theorem sIns_2(x:Ins):(eIns x)[1]?=some (.int .i64 x.dst.kind):=rfl
theorem sIns_3(x:Ins):(eIns x)[2]?=some (.int .i64 x.dst.cls):=rfl
theorem sIns_4(x:Ins):(eIns x)[3]?=some (.int .i64 x.dst.n):=rfl
theorem sIns_5(x:Ins):(eIns x)[4]?=some (.int .i64 x.dst.tag):=rfl
theorem sIns_6(x:Ins):(eIns x)[5]?=some (.sim (x.args.map eOpd) false):=rfl
theorem sIns_7(x:Ins):(eIns x)[6]?=some (.str x.name):=rfl
theorem sIns_8(x:Ins):(eIns x)[7]?=some (.int .i64 x.off):=rfl
theorem sIns_9(x:Ins):(eIns x)[8]?=some (.sim (x.labels.map eStr) false):=rfl
theorem sIns_10(x:Ins):(eIns x)[9]?=some (.sim (x.cases.map eInt) false):=rfl
theorem sIns_11(x:Ins):ipart true 10 0 (eIns x)=some (.agg (eIns x)):=rfl
theorem sIns_12(x:Ins):ipart true 4 1 (eIns x)=some (.agg (eOpd x.dst)):=rfl
theorem sIns_13(x:Ins):(∀v∈eIns x,v.one=true)=True:=eq_true fun v h=>(ke x v h).2
theorem sIns_14(x:Ins): ∀o cs,splice (eIns x) o cs=splice [.int .i64 x.op,.int .i64 x.dst.kind,.int .i64 x.dst.cls,.int .i64 x.dst.n,.int .i64 x.dst.tag,.sim (x.args.map eOpd) false,.str x.name,.int .i64 x.off,.sim (x.labels.map eStr) false,.sim (x.cases.map eInt) false] o cs:=fun _ _=>rfl
def sIns(x:Ins):=And.intro (sIns_0 x) (And.intro (sIns_1 x) (And.intro (sIns_2 x) (And.intro (sIns_3 x) (And.intro (sIns_4 x) (And.intro (sIns_5 x) (And.intro (sIns_6 x) (And.intro (sIns_7 x) (And.intro (sIns_8 x) (And.intro (sIns_9 x) (And.intro (sIns_10 x) (And.intro (sIns_11 x) (And.intro (sIns_12 x) (And.intro (sIns_13 x) (sIns_14 x))))))))))))))
def wIns(x:Ins):Prop:=(Lit.int .i64 x.op).wf=true∧wOpd x.dst∧(∀y∈x.args,wOpd y)∧(Lit.int .i64 x.off).wf=true∧(∀y∈x.cases,(Lit.int .i64 y).wf=true)
def eBl(x:Bl):List IV:=[.str x.label,.bool x.edge,.sim (x.ins.map eOpd) false,.sim (x.code.map eIns) false]
theorem zzC(x:Bl):Cl1 (eBl x):=(zk (zS _) rfl (zk (zF _) rfl (zk (yC yR _) rfl (zk (yC ke _) rfl yf))))
theorem sBl_0(x:Bl):(eBl x).length=4:=rfl
theorem sBl_1(x:Bl):(eBl x)[0]?=some (.str x.label):=rfl
theorem sBl_2(x:Bl):(eBl x)[1]?=some (.bool x.edge):=rfl
theorem sBl_3(x:Bl):(eBl x)[2]?=some (.sim (x.ins.map eOpd) false):=rfl
theorem sBl_4(x:Bl):(eBl x)[3]?=some (.sim (x.code.map eIns) false):=rfl
theorem sBl_5(x:Bl):ipart true 4 0 (eBl x)=some (.agg (eBl x)):=rfl
theorem sBl_6(x:Bl):(∀v∈eBl x,v.one=true)=True:=eq_true fun v h=>(zzC x v h).2
theorem sBl_7(x:Bl): ∀o cs,splice (eBl x) o cs=splice [.str x.label,.bool x.edge,.sim (x.ins.map eOpd) false,.sim (x.code.map eIns) false] o cs:=fun _ _=>rfl
def sBl(x:Bl):=And.intro (sBl_0 x) (And.intro (sBl_1 x) (And.intro (sBl_2 x) (And.intro (sBl_3 x) (And.intro (sBl_4 x) (And.intro (sBl_5 x) (And.intro (sBl_6 x) (sBl_7 x)))))))
def wBl(x:Bl):Prop:=(∀y∈x.ins,wOpd y)∧(∀y∈x.code,wIns y)
def eFnc(x:Fnc):List IV:=[.bool x.machine,.str x.name,.sim (x.regs.map eRg) false,.sim (x.params.map eOpd) false,.sim (x.blocks.map eBl) false]
theorem kD(x:Fnc):Cl1 (eFnc x):=(zk (zF _) rfl (zk (zS _) rfl (zk (yC zzu _) rfl (zk (yC yR _) rfl (zk (yC zzC _) rfl yf)))))
theorem sFnc_0(x:Fnc):(eFnc x).length=5:=rfl
theorem sFnc_1(x:Fnc):(eFnc x)[0]?=some (.bool x.machine):=rfl
theorem sFnc_2(x:Fnc):(eFnc x)[1]?=some (.str x.name):=rfl
theorem sFnc_3(x:Fnc):(eFnc x)[2]?=some (.sim (x.regs.map eRg) false):=rfl
theorem sFnc_4(x:Fnc):(eFnc x)[3]?=some (.sim (x.params.map eOpd) false):=rfl
theorem sFnc_5(x:Fnc):(eFnc x)[4]?=some (.sim (x.blocks.map eBl) false):=rfl
theorem sFnc_6(x:Fnc):ipart true 5 0 (eFnc x)=some (.agg (eFnc x)):=rfl
theorem sFnc_7(x:Fnc):(∀v∈eFnc x,v.one=true)=True:=eq_true fun v h=>(kD x v h).2
theorem sFnc_8(x:Fnc): ∀o cs,splice (eFnc x) o cs=splice [.bool x.machine,.str x.name,.sim (x.regs.map eRg) false,.sim (x.params.map eOpd) false,.sim (x.blocks.map eBl) false] o cs:=fun _ _=>rfl
def sFnc(x:Fnc):=And.intro (sFnc_0 x) (And.intro (sFnc_1 x) (And.intro (sFnc_2 x) (And.intro (sFnc_3 x) (And.intro (sFnc_4 x) (And.intro (sFnc_5 x) (And.intro (sFnc_6 x) (And.intro (sFnc_7 x) (sFnc_8 x))))))))
def wFnc(x:Fnc):Prop:=(∀y∈x.regs,wRg y)∧(∀y∈x.params,wOpd y)∧(∀y∈x.blocks,wBl y)
def zP(x:zU):List IV:=[.bool x.f.machine,.str x.f.name,.sim (x.f.regs.map eRg) false,.sim (x.f.params.map eOpd) false,.sim (x.f.blocks.map eBl) false]
theorem yF(x:zU):Cl1 (zP x):=(zk (zF _) rfl (zk (zS _) rfl (zk (yC zzu _) rfl (zk (yC yR _) rfl (zk (yC zzC _) rfl yf)))))
theorem sverify_checker_0(x:zU):(zP x).length=5:=rfl
theorem sverify_checker_1(x:zU):(zP x)[0]?=some (.bool x.f.machine):=rfl
theorem sverify_checker_2(x:zU):(zP x)[1]?=some (.str x.f.name):=rfl
theorem sverify_checker_3(x:zU):(zP x)[2]?=some (.sim (x.f.regs.map eRg) false):=rfl
theorem sverify_checker_4(x:zU):(zP x)[3]?=some (.sim (x.f.params.map eOpd) false):=rfl
theorem sverify_checker_5(x:zU):(zP x)[4]?=some (.sim (x.f.blocks.map eBl) false):=rfl
theorem sverify_checker_6(x:zU):ipart true 5 0 (zP x)=some (.agg (zP x)):=rfl
theorem sverify_checker_7(x:zU):ipart true 5 0 (zP x)=some (.agg (eFnc x.f)):=rfl
theorem sverify_checker_8(x:zU):(∀v∈zP x,v.one=true)=True:=eq_true fun v h=>(yF x v h).2
theorem sverify_checker_9(x:zU): ∀o cs,splice (zP x) o cs=splice [.bool x.f.machine,.str x.f.name,.sim (x.f.regs.map eRg) false,.sim (x.f.params.map eOpd) false,.sim (x.f.blocks.map eBl) false] o cs:=fun _ _=>rfl
def zj(x:zU):=And.intro (sverify_checker_0 x) (And.intro (sverify_checker_1 x) (And.intro (sverify_checker_2 x) (And.intro (sverify_checker_3 x) (And.intro (sverify_checker_4 x) (And.intro (sverify_checker_5 x) (And.intro (sverify_checker_6 x) (And.intro (sverify_checker_7 x) (And.intro (sverify_checker_8 x) (sverify_checker_9 x)))))))))
def yi(x:zl):List IV:=[.fn (.func x.look) [] []]
theorem zza(x:zl):Cl1 (yi x):=(zk (kw _) rfl yf)
theorem sverify_rule_0(x:zl):(yi x).length=1:=rfl
theorem sverify_rule_1(x:zl):(yi x)[0]?=some (.fn (.func x.look) [] []):=rfl
theorem sverify_rule_2(x:zl):ipart true 1 0 (yi x)=some (.agg (yi x)):=rfl
theorem sverify_rule_3(x:zl):(∀v∈yi x,v.one=true)=True:=eq_true fun v h=>(zza x v h).2
theorem sverify_rule_4(x:zl): ∀o cs,splice (yi x) o cs=splice [.fn (.func x.look) [] []] o cs:=fun _ _=>rfl
def zzR(x:zl):=And.intro (sverify_rule_0 x) (And.intro (sverify_rule_1 x) (And.intro (sverify_rule_2 x) (And.intro (sverify_rule_3 x) (sverify_rule_4 x))))
def ze(x:zT):List IV:=[.int .i64 x.code,.int .i64 x.block,.int .i64 x.i]
theorem zt(x:zT):Cl1 (ze x):=(zk (zD _ _) rfl (zk (zD _ _) rfl (zk (zD _ _) rfl yf)))
theorem sverify_fault_0(x:zT):(ze x).length=3:=rfl
theorem sverify_fault_1(x:zT):(ze x)[0]?=some (.int .i64 x.code):=rfl
theorem sverify_fault_2(x:zT):(ze x)[1]?=some (.int .i64 x.block):=rfl
theorem sverify_fault_3(x:zT):(ze x)[2]?=some (.int .i64 x.i):=rfl
theorem sverify_fault_4(x:zT):ipart true 3 0 (ze x)=some (.agg (ze x)):=rfl
theorem sverify_fault_5(x:zT):(∀v∈ze x,v.one=true)=True:=eq_true fun v h=>(zt x v h).2
theorem sverify_fault_6(x:zT): ∀o cs,splice (ze x) o cs=splice [.int .i64 x.code,.int .i64 x.block,.int .i64 x.i] o cs:=fun _ _=>rfl
def zd(x:zT):=And.intro (sverify_fault_0 x) (And.intro (sverify_fault_1 x) (And.intro (sverify_fault_2 x) (And.intro (sverify_fault_3 x) (And.intro (sverify_fault_4 x) (And.intro (sverify_fault_5 x) (sverify_fault_6 x))))))
def zp(x:zH):List IV:=[.str x.name,.str x.dst,.sim (x.args.map eStr) false,.int .i64 x.labels,.bool x.alone]
theorem kT(x:zH):Cl1 (zp x):=(zk (zS _) rfl (zk (zS _) rfl (zk (yC zzY _) rfl (zk (zD _ _) rfl (zk (zF _) rfl yf)))))
theorem zzl(x:zH):(zp x).length=5:=rfl
theorem zzk(x:zH):(zp x)[0]?=some (.str x.name):=rfl
theorem zzj(x:zH):(zp x)[1]?=some (.str x.dst):=rfl
theorem zzi(x:zH):(zp x)[2]?=some (.sim (x.args.map eStr) false):=rfl
theorem zzh(x:zH):(zp x)[3]?=some (.int .i64 x.labels):=rfl
theorem zzg(x:zH):(zp x)[4]?=some (.bool x.alone):=rfl
theorem zzf(x:zH):ipart true 5 0 (zp x)=some (.agg (zp x)):=rfl
theorem zze(x:zH):(∀v∈zp x,v.one=true)=True:=eq_true fun v h=>(kT x v h).2
theorem zzd(x:zH): ∀o cs,splice (zp x) o cs=splice [.str x.name,.str x.dst,.sim (x.args.map eStr) false,.int .i64 x.labels,.bool x.alone] o cs:=fun _ _=>rfl
def yX(x:zH):=And.intro (zzl x) (And.intro (zzk x) (And.intro (zzj x) (And.intro (zzi x) (And.intro (zzh x) (And.intro (zzg x) (And.intro (zzf x) (And.intro (zze x) (zzd x))))))))
def zY(x:zn):List IV:=[.sim (x.succ.map (eS eInt)) false,.sim (x.pred.map (eS eInt)) false]
theorem yg(x:zn):Cl1 (zY x):=(zk (yC (cl_eS ye) _) rfl (zk (yC (cl_eS ye) _) rfl yf))
theorem sgraph_Graph_0(x:zn):(zY x).length=2:=rfl
theorem sgraph_Graph_1(x:zn):(zY x)[0]?=some (.sim (x.succ.map (eS eInt)) false):=rfl
theorem sgraph_Graph_2(x:zn):(zY x)[1]?=some (.sim (x.pred.map (eS eInt)) false):=rfl
theorem sgraph_Graph_3(x:zn):ipart true 2 0 (zY x)=some (.agg (zY x)):=rfl
theorem sgraph_Graph_4(x:zn):(∀v∈zY x,v.one=true)=True:=eq_true fun v h=>(yg x v h).2
theorem sgraph_Graph_5(x:zn): ∀o cs,splice (zY x) o cs=splice [.sim (x.succ.map (eS eInt)) false,.sim (x.pred.map (eS eInt)) false] o cs:=fun _ _=>rfl
def kR(x:zn):=And.intro (sgraph_Graph_0 x) (And.intro (sgraph_Graph_1 x) (And.intro (sgraph_Graph_2 x) (And.intro (sgraph_Graph_3 x) (And.intro (sgraph_Graph_4 x) (sgraph_Graph_5 x)))))
def zX(x:zG):List IV:=[.int .i64 x.n,.sim (x.words.map (eI .u64)) false]
theorem kC(x:zG):Cl1 (zX x):=(zk (zD _ _) rfl (zk (yC (cl_eI .u64) _) rfl yf))
theorem sbits_Set_0(x:zG):(zX x).length=2:=rfl
theorem sbits_Set_1(x:zG):(zX x)[0]?=some (.int .i64 x.n):=rfl
theorem sbits_Set_2(x:zG):(zX x)[1]?=some (.sim (x.words.map (eI .u64)) false):=rfl
theorem sbits_Set_3(x:zG):ipart true 2 0 (zX x)=some (.agg (zX x)):=rfl
theorem sbits_Set_4(x:zG):(∀v∈zX x,v.one=true)=True:=eq_true fun v h=>(kC x v h).2
theorem sbits_Set_5(x:zG): ∀o cs,splice (zX x) o cs=splice [.int .i64 x.n,.sim (x.words.map (eI .u64)) false] o cs:=fun _ _=>rfl
def kv(x:zG):=And.intro (sbits_Set_0 x) (And.intro (sbits_Set_1 x) (And.intro (sbits_Set_2 x) (And.intro (sbits_Set_3 x) (And.intro (sbits_Set_4 x) (sbits_Set_5 x)))))
def zf(x:zL):List IV:=[.bool x.f.machine,.str x.f.name,.sim (x.f.regs.map eRg) false,.sim (x.f.params.map eOpd) false,.sim (x.f.blocks.map eBl) false,.sim (x.ids.map eInt) false,.sim (x.in_.map (eP zX)) false]
theorem ka(x:zL):Cl1 (zf x):=(zk (zF _) rfl (zk (zS _) rfl (zk (yC zzu _) rfl (zk (yC yR _) rfl (zk (yC zzC _) rfl (zk (yC ye _) rfl (zk (yC (cl_eP kC) _) rfl yf)))))))
theorem sassign_Known_0(x:zL):(zf x).length=7:=rfl
theorem sassign_Known_1(x:zL):(zf x)[0]?=some (.bool x.f.machine):=rfl
theorem sassign_Known_2(x:zL):(zf x)[1]?=some (.str x.f.name):=rfl
theorem sassign_Known_3(x:zL):(zf x)[2]?=some (.sim (x.f.regs.map eRg) false):=rfl
theorem sassign_Known_4(x:zL):(zf x)[3]?=some (.sim (x.f.params.map eOpd) false):=rfl
theorem sassign_Known_5(x:zL):(zf x)[4]?=some (.sim (x.f.blocks.map eBl) false):=rfl
theorem sassign_Known_6(x:zL):(zf x)[5]?=some (.sim (x.ids.map eInt) false):=rfl
theorem sassign_Known_7(x:zL):(zf x)[6]?=some (.sim (x.in_.map (eP zX)) false):=rfl
theorem sassign_Known_8(x:zL):ipart true 7 0 (zf x)=some (.agg (zf x)):=rfl
theorem sassign_Known_9(x:zL):ipart true 5 0 (zf x)=some (.agg (eFnc x.f)):=rfl
theorem sassign_Known_10(x:zL):(∀v∈zf x,v.one=true)=True:=eq_true fun v h=>(ka x v h).2
theorem sassign_Known_11(x:zL): ∀o cs,splice (zf x) o cs=splice [.bool x.f.machine,.str x.f.name,.sim (x.f.regs.map eRg) false,.sim (x.f.params.map eOpd) false,.sim (x.f.blocks.map eBl) false,.sim (x.ids.map eInt) false,.sim (x.in_.map (eP zX)) false] o cs:=fun _ _=>rfl
def kb(x:zL):=And.intro (sassign_Known_0 x) (And.intro (sassign_Known_1 x) (And.intro (sassign_Known_2 x) (And.intro (sassign_Known_3 x) (And.intro (sassign_Known_4 x) (And.intro (sassign_Known_5 x) (And.intro (sassign_Known_6 x) (And.intro (sassign_Known_7 x) (And.intro (sassign_Known_8 x) (And.intro (sassign_Known_9 x) (And.intro (sassign_Known_10 x) (sassign_Known_11 x)))))))))))
def yl(x:yN):List IV:=[.str x.name,.int .i64 x.dst,.int .i64 x.args.a0,.int .i64 x.args.a1,.int .i64 x.labels,.bool x.machine]
theorem cl_eop_row(x:yN):Cl1 (yl x):=(zk (zS _) rfl (zk (zD _ _) rfl (zk (zD _ _) rfl (zk (zD _ _) rfl (zk (zD _ _) rfl (zk (zF _) rfl yf))))))
theorem sop_row_0(x:yN):(yl x).length=6:=rfl
theorem sop_row_1(x:yN):(yl x)[0]?=some (.str x.name):=rfl
theorem sop_row_2(x:yN):(yl x)[1]?=some (.int .i64 x.dst):=rfl
theorem sop_row_3(x:yN):(yl x)[2]?=some (.int .i64 x.args.a0):=rfl
theorem sop_row_4(x:yN):(yl x)[3]?=some (.int .i64 x.args.a1):=rfl
theorem sop_row_5(x:yN):(yl x)[4]?=some (.int .i64 x.labels):=rfl
theorem sop_row_6(x:yN):(yl x)[5]?=some (.bool x.machine):=rfl
theorem sop_row_7(x:yN):ipart true 6 0 (yl x)=some (.agg (yl x)):=rfl
theorem sop_row_8(x:yN):ipart true 2 2 (yl x)=some (.agg (eA2 eInt x.args)):=rfl
theorem sop_row_9(x:yN):(∀v∈yl x,v.one=true)=True:=eq_true fun v h=>(cl_eop_row x v h).2
theorem sop_row_10(x:yN): ∀o cs,splice (yl x) o cs=splice [.str x.name,.int .i64 x.dst,.int .i64 x.args.a0,.int .i64 x.args.a1,.int .i64 x.labels,.bool x.machine] o cs:=fun _ _=>rfl
def yh(x:yN):=And.intro (sop_row_0 x) (And.intro (sop_row_1 x) (And.intro (sop_row_2 x) (And.intro (sop_row_3 x) (And.intro (sop_row_4 x) (And.intro (sop_row_5 x) (And.intro (sop_row_6 x) (And.intro (sop_row_7 x) (And.intro (sop_row_8 x) (And.intro (sop_row_9 x) (sop_row_10 x))))))))))
theorem sA80_0(x:A2 Int):(eA2 eInt x).length=2:=rfl
theorem sA80_1(x:A2 Int):(eA2 eInt x)[0]?=some (.int .i64 x.a0):=rfl
theorem sA80_2(x:A2 Int):(eA2 eInt x)[1]?=some (.int .i64 x.a1):=rfl
theorem sA80_3(x:A2 Int):ipart true 2 0 (eA2 eInt x)=some (.agg (eA2 eInt x)):=rfl
theorem sA80_4(x:A2 Int):(∀v∈eA2 eInt x,v.one=true)=True:=eq_true fun v h=>((cl_eA2 ye) x v h).2
theorem sA80_5(x:A2 Int): ∀o cs,splice (eA2 eInt x) o cs=splice [.int .i64 x.a0,.int .i64 x.a1] o cs:=fun _ _=>rfl
def sA80(x:A2 Int):=And.intro (sA80_0 x) (And.intro (sA80_1 x) (And.intro (sA80_2 x) (And.intro (sA80_3 x) (And.intro (sA80_4 x) (sA80_5 x)))))
end Go.Proofs.YtmogcnnhbmaffaaGreat.IL
