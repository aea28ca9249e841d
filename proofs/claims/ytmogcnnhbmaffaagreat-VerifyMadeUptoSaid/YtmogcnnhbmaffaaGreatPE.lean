/- The cells of the program's data. Printed by types.py. -/
import Derived.Test.YtmogcnnhbmaffaaGreatILT
import Derived.Test.YtmogcnnhbmaffaaGreatPE0
import Derived.Test.YtmogcnnhbmaffaaGreatPD
set_option linter.unusedVariables false
set_option linter.unusedSimpArgs false
set_option linter.defProp false
set_option maxRecDepth 100000
namespace Go.Proofs.YtmogcnnhbmaffaaGreat.IL
open Go Go.RowKit PL
def eRg(x:Rg):List IV:=[.int .i64 x.id,.int .i64 x.cls]
theorem yx(x:Rg):Cl1 (eRg x):=(zU (zC _ _) rfl (zU (zC _ _) rfl yX))
theorem sRg_0(x:Rg):(eRg x).length=2:=rfl
theorem sRg_1(x:Rg):(eRg x)[0]?=some (.int .i64 x.id):=rfl
theorem sRg_2(x:Rg):(eRg x)[1]?=some (.int .i64 x.cls):=rfl
theorem sRg_3(x:Rg):ipart true 2 0 (eRg x)=some (.agg (eRg x)):=rfl
theorem sRg_4(x:Rg):(∀v∈eRg x,v.one=true)=True:=eq_true fun v h=>(yx x v h).2
theorem sRg_5(x:Rg): ∀o cs,splice (eRg x) o cs=splice [.int .i64 x.id,.int .i64 x.cls] o cs:=fun _ _=>rfl
def sRg(x:Rg):=And.intro (sRg_0 x) (And.intro (sRg_1 x) (And.intro (sRg_2 x) (And.intro (sRg_3 x) (And.intro (sRg_4 x) (sRg_5 x)))))
def eOpd(x:Opd):List IV:=[.int .i64 x.kind,.int .i64 x.cls,.int .i64 x.n,.int .i64 x.tag]
theorem yG(x:Opd):Cl1 (eOpd x):=(zU (zC _ _) rfl (zU (zC _ _) rfl (zU (zC _ _) rfl (zU (zC _ _) rfl yX))))
theorem sOpd_0(x:Opd):(eOpd x).length=4:=rfl
theorem sOpd_1(x:Opd):(eOpd x)[0]?=some (.int .i64 x.kind):=rfl
theorem sOpd_2(x:Opd):(eOpd x)[1]?=some (.int .i64 x.cls):=rfl
theorem sOpd_3(x:Opd):(eOpd x)[2]?=some (.int .i64 x.n):=rfl
theorem sOpd_4(x:Opd):(eOpd x)[3]?=some (.int .i64 x.tag):=rfl
theorem sOpd_5(x:Opd):ipart true 4 0 (eOpd x)=some (.agg (eOpd x)):=rfl
theorem sOpd_6(x:Opd):(∀v∈eOpd x,v.one=true)=True:=eq_true fun v h=>(yG x v h).2
theorem sOpd_7(x:Opd): ∀o cs,splice (eOpd x) o cs=splice [.int .i64 x.kind,.int .i64 x.cls,.int .i64 x.n,.int .i64 x.tag] o cs:=fun _ _=>rfl
def sOpd(x:Opd):=And.intro (sOpd_0 x) (And.intro (sOpd_1 x) (And.intro (sOpd_2 x) (And.intro (sOpd_3 x) (And.intro (sOpd_4 x) (And.intro (sOpd_5 x) (And.intro (sOpd_6 x) (sOpd_7 x)))))))
theorem qcOpd(a b:Opd):eqCells [.i,.i,.i,.i] (eOpd a) (eOpd b)=some (decide (a=b)):=by
 refine(eqC_i (eqC_i (eqC_i (eqC_i eqC_n)))).trans ?_
 congr 2
 rcases a with ⟨x0,x1,x2,x3⟩
 rcases b with ⟨y0,y1,y2,y3⟩
 simp[and_assoc]
def qOpd{c:Bool}(a b:Opd):=q_agg (c:=c) ty38 rfl rfl (qcOpd a b)
def eIns(x:Ins):List IV:=[.int .i64 x.op,.int .i64 x.dst.kind,.int .i64 x.dst.cls,.int .i64 x.dst.n,.int .i64 x.dst.tag,.sim (x.args.map eOpd) false,.str x.name,.int .i64 x.off,.sim (x.labels.map eStr) false,.sim (x.cases.map eInt) false]
theorem kU(x:Ins):Cl1 (eIns x):=(zU (zC _ _) rfl (zU (zC _ _) rfl (zU (zC _ _) rfl (zU (zC _ _) rfl (zU (zC _ _) rfl (zU (zj yG _) rfl (zU (zP _) rfl (zU (zC _ _) rfl (zU (zj yzP _) rfl (zU (zj yF _) rfl yX))))))))))
theorem sIns_0(x:Ins):(eIns x).length=10:=rfl
theorem sIns_1(x:Ins):(eIns x)[0]?=some (.int .i64 x.op):=rfl
theorem sIns_2(x:Ins):(eIns x)[1]?=some (.int .i64 x.dst.kind):=rfl
theorem sIns_3(x:Ins):(eIns x)[2]?=some (.int .i64 x.dst.cls):=rfl
theorem sIns_4(x:Ins):(eIns x)[3]?=some (.int .i64 x.dst.n):=rfl
theorem sIns_5(x:Ins):(eIns x)[4]?=some (.int .i64 x.dst.tag):=rfl
theorem sIns_6(x:Ins):(eIns x)[5]?=some (.sim (x.args.map eOpd) false):=rfl
theorem sIns_7(x:Ins):(eIns x)[6]?=some (.str x.name):=rfl
theorem sIns_8(x:Ins):(eIns x)[7]?=some (.int .i64 x.off):=rfl
theorem sIns_9(x:Ins):(eIns x)[8]?=some (.sim (x.labels.map eStr) false):=rfl
theorem sIns_10(x:Ins):(eIns x)[9]?=some (.sim (x.cases.map eInt) false):=rfl
theorem sIns_11(x:Ins):ipart true 10 0 (eIns x)=some (.agg (eIns x)):=rfl
theorem sIns_12(x:Ins):ipart true 4 1 (eIns x)=some (.agg (eOpd x.dst)):=rfl
theorem sIns_13(x:Ins):(∀v∈eIns x,v.one=true)=True:=eq_true fun v h=>(kU x v h).2
theorem sIns_14(x:Ins): ∀o cs,splice (eIns x) o cs=splice [.int .i64 x.op,.int .i64 x.dst.kind,.int .i64 x.dst.cls,.int .i64 x.dst.n,.int .i64 x.dst.tag,.sim (x.args.map eOpd) false,.str x.name,.int .i64 x.off,.sim (x.labels.map eStr) false,.sim (x.cases.map eInt) false] o cs:=fun _ _=>rfl
def sIns(x:Ins):=And.intro (sIns_0 x) (And.intro (sIns_1 x) (And.intro (sIns_2 x) (And.intro (sIns_3 x) (And.intro (sIns_4 x) (And.intro (sIns_5 x) (And.intro (sIns_6 x) (And.intro (sIns_7 x) (And.intro (sIns_8 x) (And.intro (sIns_9 x) (And.intro (sIns_10 x) (And.intro (sIns_11 x) (And.intro (sIns_12 x) (And.intro (sIns_13 x) (sIns_14 x))))))))))))))
def eBl(x:Bl):List IV:=[.str x.label,.bool x.edge,.sim (x.ins.map eOpd) false,.sim (x.code.map eIns) false]
theorem kp(x:Bl):Cl1 (eBl x):=(zU (zP _) rfl (zU (zE _) rfl (zU (zj yG _) rfl (zU (zj kU _) rfl yX))))
theorem sBl_0(x:Bl):(eBl x).length=4:=rfl
theorem sBl_1(x:Bl):(eBl x)[0]?=some (.str x.label):=rfl
theorem sBl_2(x:Bl):(eBl x)[1]?=some (.bool x.edge):=rfl
theorem sBl_3(x:Bl):(eBl x)[2]?=some (.sim (x.ins.map eOpd) false):=rfl
theorem sBl_4(x:Bl):(eBl x)[3]?=some (.sim (x.code.map eIns) false):=rfl
theorem sBl_5(x:Bl):ipart true 4 0 (eBl x)=some (.agg (eBl x)):=rfl
theorem sBl_6(x:Bl):(∀v∈eBl x,v.one=true)=True:=eq_true fun v h=>(kp x v h).2
theorem sBl_7(x:Bl): ∀o cs,splice (eBl x) o cs=splice [.str x.label,.bool x.edge,.sim (x.ins.map eOpd) false,.sim (x.code.map eIns) false] o cs:=fun _ _=>rfl
def sBl(x:Bl):=And.intro (sBl_0 x) (And.intro (sBl_1 x) (And.intro (sBl_2 x) (And.intro (sBl_3 x) (And.intro (sBl_4 x) (And.intro (sBl_5 x) (And.intro (sBl_6 x) (sBl_7 x)))))))
def eFnc(x:Fnc):List IV:=[.bool x.machine,.str x.name,.sim (x.regs.map eRg) false,.sim (x.params.map eOpd) false,.sim (x.blocks.map eBl) false]
theorem zzH(x:Fnc):Cl1 (eFnc x):=(zU (zE _) rfl (zU (zP _) rfl (zU (zj yx _) rfl (zU (zj yG _) rfl (zU (zj kp _) rfl yX)))))
theorem sFnc_0(x:Fnc):(eFnc x).length=5:=rfl
theorem sFnc_1(x:Fnc):(eFnc x)[0]?=some (.bool x.machine):=rfl
theorem sFnc_2(x:Fnc):(eFnc x)[1]?=some (.str x.name):=rfl
theorem sFnc_3(x:Fnc):(eFnc x)[2]?=some (.sim (x.regs.map eRg) false):=rfl
theorem sFnc_4(x:Fnc):(eFnc x)[3]?=some (.sim (x.params.map eOpd) false):=rfl
theorem sFnc_5(x:Fnc):(eFnc x)[4]?=some (.sim (x.blocks.map eBl) false):=rfl
theorem sFnc_6(x:Fnc):ipart true 5 0 (eFnc x)=some (.agg (eFnc x)):=rfl
theorem sFnc_7(x:Fnc):(∀v∈eFnc x,v.one=true)=True:=eq_true fun v h=>(zzH x v h).2
theorem sFnc_8(x:Fnc): ∀o cs,splice (eFnc x) o cs=splice [.bool x.machine,.str x.name,.sim (x.regs.map eRg) false,.sim (x.params.map eOpd) false,.sim (x.blocks.map eBl) false] o cs:=fun _ _=>rfl
def sFnc(x:Fnc):=And.intro (sFnc_0 x) (And.intro (sFnc_1 x) (And.intro (sFnc_2 x) (And.intro (sFnc_3 x) (And.intro (sFnc_4 x) (And.intro (sFnc_5 x) (And.intro (sFnc_6 x) (And.intro (sFnc_7 x) (sFnc_8 x))))))))
def eDIns(x:DIns):List IV:=[.int .u8 x.op,.int .u8 x.d,.int .u8 x.a,.int .u8 x.b,.int .i16 x.n]
theorem cl_eDIns(x:DIns):Cl1 (eDIns x):=(zU (zC _ _) rfl (zU (zC _ _) rfl (zU (zC _ _) rfl (zU (zC _ _) rfl (zU (zC _ _) rfl yX)))))
theorem sDIns_0(x:DIns):(eDIns x).length=5:=rfl
theorem sDIns_1(x:DIns):(eDIns x)[0]?=some (.int .u8 x.op):=rfl
theorem sDIns_2(x:DIns):(eDIns x)[1]?=some (.int .u8 x.d):=rfl
theorem sDIns_3(x:DIns):(eDIns x)[2]?=some (.int .u8 x.a):=rfl
theorem sDIns_4(x:DIns):(eDIns x)[3]?=some (.int .u8 x.b):=rfl
theorem sDIns_5(x:DIns):(eDIns x)[4]?=some (.int .i16 x.n):=rfl
theorem sDIns_6(x:DIns):ipart true 5 0 (eDIns x)=some (.agg (eDIns x)):=rfl
theorem sDIns_7(x:DIns):(∀v∈eDIns x,v.one=true)=True:=eq_true fun v h=>(cl_eDIns x v h).2
theorem sDIns_8(x:DIns): ∀o cs,splice (eDIns x) o cs=splice [.int .u8 x.op,.int .u8 x.d,.int .u8 x.a,.int .u8 x.b,.int .i16 x.n] o cs:=fun _ _=>rfl
def sDIns(x:DIns):=And.intro (sDIns_0 x) (And.intro (sDIns_1 x) (And.intro (sDIns_2 x) (And.intro (sDIns_3 x) (And.intro (sDIns_4 x) (And.intro (sDIns_5 x) (And.intro (sDIns_6 x) (And.intro (sDIns_7 x) (sDIns_8 x))))))))
def wDIns(x:DIns):Prop:=(Lit.int .u8 x.op).wf=true∧(Lit.int .u8 x.d).wf=true∧(Lit.int .u8 x.a).wf=true∧(Lit.int .u8 x.b).wf=true∧(Lit.int .i16 x.n).wf=true
def eDBl(x:DBl):List IV:=[.sim (x.code.map eDIns) false,.int .u8 x.term,.int .u8 x.a,.int .u8 x.b,.int .u8 x.v]
theorem cl_eDBl(x:DBl):Cl1 (eDBl x):=(zU (zj cl_eDIns _) rfl (zU (zC _ _) rfl (zU (zC _ _) rfl (zU (zC _ _) rfl (zU (zC _ _) rfl yX)))))
theorem sDBl_0(x:DBl):(eDBl x).length=5:=rfl
theorem sDBl_1(x:DBl):(eDBl x)[0]?=some (.sim (x.code.map eDIns) false):=rfl
theorem sDBl_2(x:DBl):(eDBl x)[1]?=some (.int .u8 x.term):=rfl
theorem sDBl_3(x:DBl):(eDBl x)[2]?=some (.int .u8 x.a):=rfl
theorem sDBl_4(x:DBl):(eDBl x)[3]?=some (.int .u8 x.b):=rfl
theorem sDBl_5(x:DBl):(eDBl x)[4]?=some (.int .u8 x.v):=rfl
theorem sDBl_6(x:DBl):ipart true 5 0 (eDBl x)=some (.agg (eDBl x)):=rfl
theorem sDBl_7(x:DBl):(∀v∈eDBl x,v.one=true)=True:=eq_true fun v h=>(cl_eDBl x v h).2
theorem sDBl_8(x:DBl): ∀o cs,splice (eDBl x) o cs=splice [.sim (x.code.map eDIns) false,.int .u8 x.term,.int .u8 x.a,.int .u8 x.b,.int .u8 x.v] o cs:=fun _ _=>rfl
def sDBl(x:DBl):=And.intro (sDBl_0 x) (And.intro (sDBl_1 x) (And.intro (sDBl_2 x) (And.intro (sDBl_3 x) (And.intro (sDBl_4 x) (And.intro (sDBl_5 x) (And.intro (sDBl_6 x) (And.intro (sDBl_7 x) (sDBl_8 x))))))))
def wDBl(x:DBl):Prop:=(∀y∈x.code,wDIns y)∧(Lit.int .u8 x.term).wf=true∧(Lit.int .u8 x.a).wf=true∧(Lit.int .u8 x.b).wf=true∧(Lit.int .u8 x.v).wf=true
def eDrf(x:Drf):List IV:=[.int .u8 x.g,.int .u8 x.x,.int .u8 x.params,.sim (x.blocks.map eDBl) false]
theorem cl_eDrf(x:Drf):Cl1 (eDrf x):=(zU (zC _ _) rfl (zU (zC _ _) rfl (zU (zC _ _) rfl (zU (zj cl_eDBl _) rfl yX))))
theorem sDrf_0(x:Drf):(eDrf x).length=4:=rfl
theorem sDrf_1(x:Drf):(eDrf x)[0]?=some (.int .u8 x.g):=rfl
theorem sDrf_2(x:Drf):(eDrf x)[1]?=some (.int .u8 x.x):=rfl
theorem sDrf_3(x:Drf):(eDrf x)[2]?=some (.int .u8 x.params):=rfl
theorem sDrf_4(x:Drf):(eDrf x)[3]?=some (.sim (x.blocks.map eDBl) false):=rfl
theorem sDrf_5(x:Drf):ipart true 4 0 (eDrf x)=some (.agg (eDrf x)):=rfl
theorem sDrf_6(x:Drf):(∀v∈eDrf x,v.one=true)=True:=eq_true fun v h=>(cl_eDrf x v h).2
theorem sDrf_7(x:Drf): ∀o cs,splice (eDrf x) o cs=splice [.int .u8 x.g,.int .u8 x.x,.int .u8 x.params,.sim (x.blocks.map eDBl) false] o cs:=fun _ _=>rfl
def sDrf(x:Drf):=And.intro (sDrf_0 x) (And.intro (sDrf_1 x) (And.intro (sDrf_2 x) (And.intro (sDrf_3 x) (And.intro (sDrf_4 x) (And.intro (sDrf_5 x) (And.intro (sDrf_6 x) (sDrf_7 x)))))))
def wDrf(x:Drf):Prop:=(Lit.int .u8 x.g).wf=true∧(Lit.int .u8 x.x).wf=true∧(Lit.int .u8 x.params).wf=true∧(∀y∈x.blocks,wDBl y)
def zN(x:zT):List IV:=[.bool x.f.machine,.str x.f.name,.sim (x.f.regs.map eRg) false,.sim (x.f.params.map eOpd) false,.sim (x.f.blocks.map eBl) false]
theorem yI(x:zT):Cl1 (zN x):=(zU (zE _) rfl (zU (zP _) rfl (zU (zj yx _) rfl (zU (zj yG _) rfl (zU (zj kp _) rfl yX)))))
theorem sverify_checker_0(x:zT):(zN x).length=5:=rfl
theorem sverify_checker_1(x:zT):(zN x)[0]?=some (.bool x.f.machine):=rfl
theorem sverify_checker_2(x:zT):(zN x)[1]?=some (.str x.f.name):=rfl
theorem sverify_checker_3(x:zT):(zN x)[2]?=some (.sim (x.f.regs.map eRg) false):=rfl
theorem sverify_checker_4(x:zT):(zN x)[3]?=some (.sim (x.f.params.map eOpd) false):=rfl
theorem sverify_checker_5(x:zT):(zN x)[4]?=some (.sim (x.f.blocks.map eBl) false):=rfl
theorem sverify_checker_6(x:zT):ipart true 5 0 (zN x)=some (.agg (zN x)):=rfl
theorem sverify_checker_7(x:zT):ipart true 5 0 (zN x)=some (.agg (eFnc x.f)):=rfl
theorem sverify_checker_8(x:zT):(∀v∈zN x,v.one=true)=True:=eq_true fun v h=>(yI x v h).2
theorem sverify_checker_9(x:zT): ∀o cs,splice (zN x) o cs=splice [.bool x.f.machine,.str x.f.name,.sim (x.f.regs.map eRg) false,.sim (x.f.params.map eOpd) false,.sim (x.f.blocks.map eBl) false] o cs:=fun _ _=>rfl
def zi(x:zT):=And.intro (sverify_checker_0 x) (And.intro (sverify_checker_1 x) (And.intro (sverify_checker_2 x) (And.intro (sverify_checker_3 x) (And.intro (sverify_checker_4 x) (And.intro (sverify_checker_5 x) (And.intro (sverify_checker_6 x) (And.intro (sverify_checker_7 x) (And.intro (sverify_checker_8 x) (sverify_checker_9 x)))))))))
def yl(x:zk):List IV:=[.fn (.func x.look) [] []]
theorem zzt(x:zk):Cl1 (yl x):=(zU (zzC _) rfl yX)
theorem sverify_rule_0(x:zk):(yl x).length=1:=rfl
theorem sverify_rule_1(x:zk):(yl x)[0]?=some (.fn (.func x.look) [] []):=rfl
theorem sverify_rule_2(x:zk):ipart true 1 0 (yl x)=some (.agg (yl x)):=rfl
theorem sverify_rule_3(x:zk):(∀v∈yl x,v.one=true)=True:=eq_true fun v h=>(zzt x v h).2
theorem sverify_rule_4(x:zk): ∀o cs,splice (yl x) o cs=splice [.fn (.func x.look) [] []] o cs:=fun _ _=>rfl
def zza(x:zk):=And.intro (sverify_rule_0 x) (And.intro (sverify_rule_1 x) (And.intro (sverify_rule_2 x) (And.intro (sverify_rule_3 x) (sverify_rule_4 x))))
def ze(x:zW):List IV:=[.int .i64 x.code,.int .i64 x.block,.int .i64 x.i]
theorem zv(x:zW):Cl1 (ze x):=(zU (zC _ _) rfl (zU (zC _ _) rfl (zU (zC _ _) rfl yX)))
theorem sverify_fault_0(x:zW):(ze x).length=3:=rfl
theorem sverify_fault_1(x:zW):(ze x)[0]?=some (.int .i64 x.code):=rfl
theorem sverify_fault_2(x:zW):(ze x)[1]?=some (.int .i64 x.block):=rfl
theorem sverify_fault_3(x:zW):(ze x)[2]?=some (.int .i64 x.i):=rfl
theorem sverify_fault_4(x:zW):ipart true 3 0 (ze x)=some (.agg (ze x)):=rfl
theorem sverify_fault_5(x:zW):(∀v∈ze x,v.one=true)=True:=eq_true fun v h=>(zv x v h).2
theorem sverify_fault_6(x:zW): ∀o cs,splice (ze x) o cs=splice [.int .i64 x.code,.int .i64 x.block,.int .i64 x.i] o cs:=fun _ _=>rfl
def zd(x:zW):=And.intro (sverify_fault_0 x) (And.intro (sverify_fault_1 x) (And.intro (sverify_fault_2 x) (And.intro (sverify_fault_3 x) (And.intro (sverify_fault_4 x) (And.intro (sverify_fault_5 x) (sverify_fault_6 x))))))
def zf(x:zH):List IV:=[.bool x.f.machine,.str x.f.name,.sim (x.f.regs.map eRg) false,.sim (x.f.params.map eOpd) false,.sim (x.f.blocks.map eBl) false,.sim (x.ids.a0.map eInt) false,.sim (x.ids.a1.map eInt) false,.sim (x.has.map eInt) false]
theorem kN(x:zH):Cl1 (zf x):=(zU (zE _) rfl (zU (zP _) rfl (zU (zj yx _) rfl (zU (zj yG _) rfl (zU (zj kp _) rfl (zU (zj yF _) rfl (zU (zj yF _) rfl (zU (zj yF _) rfl yX))))))))
theorem zzm(x:zH):(zf x).length=8:=rfl
theorem zzl(x:zH):(zf x)[0]?=some (.bool x.f.machine):=rfl
theorem zzk(x:zH):(zf x)[1]?=some (.str x.f.name):=rfl
theorem zzj(x:zH):(zf x)[2]?=some (.sim (x.f.regs.map eRg) false):=rfl
theorem zzi(x:zH):(zf x)[3]?=some (.sim (x.f.params.map eOpd) false):=rfl
theorem zzh(x:zH):(zf x)[4]?=some (.sim (x.f.blocks.map eBl) false):=rfl
theorem zzg(x:zH):(zf x)[5]?=some (.sim (x.ids.a0.map eInt) false):=rfl
theorem zzf(x:zH):(zf x)[6]?=some (.sim (x.ids.a1.map eInt) false):=rfl
theorem zze(x:zH):(zf x)[7]?=some (.sim (x.has.map eInt) false):=rfl
theorem zzd(x:zH):ipart true 8 0 (zf x)=some (.agg (zf x)):=rfl
theorem zzP(x:zH):ipart true 5 0 (zf x)=some (.agg (eFnc x.f)):=rfl
theorem zzO(x:zH):ipart true 2 5 (zf x)=some (.agg (eA2 (eS eInt) x.ids)):=rfl
theorem zzN(x:zH):(∀v∈zf x,v.one=true)=True:=eq_true fun v h=>(kN x v h).2
theorem zzM(x:zH): ∀o cs,splice (zf x) o cs=splice [.bool x.f.machine,.str x.f.name,.sim (x.f.regs.map eRg) false,.sim (x.f.params.map eOpd) false,.sim (x.f.blocks.map eBl) false,.sim (x.ids.a0.map eInt) false,.sim (x.ids.a1.map eInt) false,.sim (x.has.map eInt) false] o cs:=fun _ _=>rfl
def kB(x:zH):=And.intro (zzm x) (And.intro (zzl x) (And.intro (zzk x) (And.intro (zzj x) (And.intro (zzi x) (And.intro (zzh x) (And.intro (zzg x) (And.intro (zzf x) (And.intro (zze x) (And.intro (zzd x) (And.intro (zzP x) (And.intro (zzO x) (And.intro (zzN x) (zzM x)))))))))))))
def za(x:zo):List IV:=[.sim (x.succ.map (eS eInt)) false,.sim (x.pred.map (eS eInt)) false]
theorem yi(x:zo):Cl1 (za x):=(zU (zj (cl_eS yF) _) rfl (zU (zj (cl_eS yF) _) rfl yX))
theorem sgraph_Graph_0(x:zo):(za x).length=2:=rfl
theorem sgraph_Graph_1(x:zo):(za x)[0]?=some (.sim (x.succ.map (eS eInt)) false):=rfl
theorem sgraph_Graph_2(x:zo):(za x)[1]?=some (.sim (x.pred.map (eS eInt)) false):=rfl
theorem sgraph_Graph_3(x:zo):ipart true 2 0 (za x)=some (.agg (za x)):=rfl
theorem sgraph_Graph_4(x:zo):(∀v∈za x,v.one=true)=True:=eq_true fun v h=>(yi x v h).2
theorem sgraph_Graph_5(x:zo): ∀o cs,splice (za x) o cs=splice [.sim (x.succ.map (eS eInt)) false,.sim (x.pred.map (eS eInt)) false] o cs:=fun _ _=>rfl
def kR(x:zo):=And.intro (sgraph_Graph_0 x) (And.intro (sgraph_Graph_1 x) (And.intro (sgraph_Graph_2 x) (And.intro (sgraph_Graph_3 x) (And.intro (sgraph_Graph_4 x) (sgraph_Graph_5 x)))))
def zZ(x:zG):List IV:=[.int .i64 x.n,.sim (x.words.map (eI .u64)) false]
theorem kH(x:zG):Cl1 (zZ x):=(zU (zC _ _) rfl (zU (zj (cl_eI .u64) _) rfl yX))
theorem sbits_Set_0(x:zG):(zZ x).length=2:=rfl
theorem sbits_Set_1(x:zG):(zZ x)[0]?=some (.int .i64 x.n):=rfl
theorem sbits_Set_2(x:zG):(zZ x)[1]?=some (.sim (x.words.map (eI .u64)) false):=rfl
theorem sbits_Set_3(x:zG):ipart true 2 0 (zZ x)=some (.agg (zZ x)):=rfl
theorem sbits_Set_4(x:zG):(∀v∈zZ x,v.one=true)=True:=eq_true fun v h=>(kH x v h).2
theorem sbits_Set_5(x:zG): ∀o cs,splice (zZ x) o cs=splice [.int .i64 x.n,.sim (x.words.map (eI .u64)) false] o cs:=fun _ _=>rfl
def zzA(x:zG):=And.intro (sbits_Set_0 x) (And.intro (sbits_Set_1 x) (And.intro (sbits_Set_2 x) (And.intro (sbits_Set_3 x) (And.intro (sbits_Set_4 x) (sbits_Set_5 x)))))
def zg(x:zL):List IV:=[.bool x.f.machine,.str x.f.name,.sim (x.f.regs.map eRg) false,.sim (x.f.params.map eOpd) false,.sim (x.f.blocks.map eBl) false,.sim (x.ids.map eInt) false,.sim (x.in_.map (eP zZ)) false]
theorem ka(x:zL):Cl1 (zg x):=(zU (zE _) rfl (zU (zP _) rfl (zU (zj yx _) rfl (zU (zj yG _) rfl (zU (zj kp _) rfl (zU (zj yF _) rfl (zU (zj (cl_eP kH) _) rfl yX)))))))
theorem sassign_Known_0(x:zL):(zg x).length=7:=rfl
theorem sassign_Known_1(x:zL):(zg x)[0]?=some (.bool x.f.machine):=rfl
theorem sassign_Known_2(x:zL):(zg x)[1]?=some (.str x.f.name):=rfl
theorem sassign_Known_3(x:zL):(zg x)[2]?=some (.sim (x.f.regs.map eRg) false):=rfl
theorem sassign_Known_4(x:zL):(zg x)[3]?=some (.sim (x.f.params.map eOpd) false):=rfl
theorem sassign_Known_5(x:zL):(zg x)[4]?=some (.sim (x.f.blocks.map eBl) false):=rfl
theorem sassign_Known_6(x:zL):(zg x)[5]?=some (.sim (x.ids.map eInt) false):=rfl
theorem sassign_Known_7(x:zL):(zg x)[6]?=some (.sim (x.in_.map (eP zZ)) false):=rfl
theorem sassign_Known_8(x:zL):ipart true 7 0 (zg x)=some (.agg (zg x)):=rfl
theorem sassign_Known_9(x:zL):ipart true 5 0 (zg x)=some (.agg (eFnc x.f)):=rfl
theorem sassign_Known_10(x:zL):(∀v∈zg x,v.one=true)=True:=eq_true fun v h=>(ka x v h).2
theorem sassign_Known_11(x:zL): ∀o cs,splice (zg x) o cs=splice [.bool x.f.machine,.str x.f.name,.sim (x.f.regs.map eRg) false,.sim (x.f.params.map eOpd) false,.sim (x.f.blocks.map eBl) false,.sim (x.ids.map eInt) false,.sim (x.in_.map (eP zZ)) false] o cs:=fun _ _=>rfl
def kb(x:zL):=And.intro (sassign_Known_0 x) (And.intro (sassign_Known_1 x) (And.intro (sassign_Known_2 x) (And.intro (sassign_Known_3 x) (And.intro (sassign_Known_4 x) (And.intro (sassign_Known_5 x) (And.intro (sassign_Known_6 x) (And.intro (sassign_Known_7 x) (And.intro (sassign_Known_8 x) (And.intro (sassign_Known_9 x) (And.intro (sassign_Known_10 x) (sassign_Known_11 x)))))))))))
def yn(x:yN):List IV:=[.str x.name,.int .i64 x.dst,.int .i64 x.args.a0,.int .i64 x.args.a1,.int .i64 x.labels,.bool x.machine]
theorem cl_eop_row(x:yN):Cl1 (yn x):=(zU (zP _) rfl (zU (zC _ _) rfl (zU (zC _ _) rfl (zU (zC _ _) rfl (zU (zC _ _) rfl (zU (zE _) rfl yX))))))
theorem sop_row_0(x:yN):(yn x).length=6:=rfl
theorem sop_row_1(x:yN):(yn x)[0]?=some (.str x.name):=rfl
theorem sop_row_2(x:yN):(yn x)[1]?=some (.int .i64 x.dst):=rfl
theorem sop_row_3(x:yN):(yn x)[2]?=some (.int .i64 x.args.a0):=rfl
theorem sop_row_4(x:yN):(yn x)[3]?=some (.int .i64 x.args.a1):=rfl
theorem sop_row_5(x:yN):(yn x)[4]?=some (.int .i64 x.labels):=rfl
theorem sop_row_6(x:yN):(yn x)[5]?=some (.bool x.machine):=rfl
theorem sop_row_7(x:yN):ipart true 6 0 (yn x)=some (.agg (yn x)):=rfl
theorem sop_row_8(x:yN):ipart true 2 2 (yn x)=some (.agg (eA2 eInt x.args)):=rfl
theorem sop_row_9(x:yN):(∀v∈yn x,v.one=true)=True:=eq_true fun v h=>(cl_eop_row x v h).2
theorem sop_row_10(x:yN): ∀o cs,splice (yn x) o cs=splice [.str x.name,.int .i64 x.dst,.int .i64 x.args.a0,.int .i64 x.args.a1,.int .i64 x.labels,.bool x.machine] o cs:=fun _ _=>rfl
def yj(x:yN):=And.intro (sop_row_0 x) (And.intro (sop_row_1 x) (And.intro (sop_row_2 x) (And.intro (sop_row_3 x) (And.intro (sop_row_4 x) (And.intro (sop_row_5 x) (And.intro (sop_row_6 x) (And.intro (sop_row_7 x) (And.intro (sop_row_8 x) (And.intro (sop_row_9 x) (sop_row_10 x))))))))))
theorem sA80_0(x:A2 Int):(eA2 eInt x).length=2:=rfl
theorem sA80_1(x:A2 Int):(eA2 eInt x)[0]?=some (.int .i64 x.a0):=rfl
theorem sA80_2(x:A2 Int):(eA2 eInt x)[1]?=some (.int .i64 x.a1):=rfl
theorem sA80_3(x:A2 Int):ipart true 2 0 (eA2 eInt x)=some (.agg (eA2 eInt x)):=rfl
theorem sA80_4(x:A2 Int):(∀v∈eA2 eInt x,v.one=true)=True:=eq_true fun v h=>((cl_eA2 yF) x v h).2
theorem sA80_5(x:A2 Int): ∀o cs,splice (eA2 eInt x) o cs=splice [.int .i64 x.a0,.int .i64 x.a1] o cs:=fun _ _=>rfl
def sA80(x:A2 Int):=And.intro (sA80_0 x) (And.intro (sA80_1 x) (And.intro (sA80_2 x) (And.intro (sA80_3 x) (And.intro (sA80_4 x) (sA80_5 x)))))
theorem qc80(a b:A2 Int):eqCells [.i,.i] (eA2 eInt a) (eA2 eInt b)=some (decide (a=b)):=by
 refine(eqC_i (eqC_i eqC_n)).trans ?_
 congr 2
 rcases a with ⟨x0,x1⟩
 rcases b with ⟨y0,y1⟩
 simp[and_assoc]
def q80{c:Bool}(a b:A2 Int):=q_agg (c:=c) ty80 rfl rfl (qc80 a b)
end Go.Proofs.YtmogcnnhbmaffaaGreat.IL
