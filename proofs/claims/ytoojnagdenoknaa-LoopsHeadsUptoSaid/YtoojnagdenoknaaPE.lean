/- The cells of the program's data. Printed by types.py. -/
import Derived.Test.YtoojnagdenoknaaILT
import Derived.Test.YtoojnagdenoknaaPE0
import Derived.Test.YtoojnagdenoknaaPD
set_option linter.unusedSectionVars false
set_option linter.unnecessarySimpa false
set_option linter.unusedVariables false
set_option linter.unusedSimpArgs false
set_option linter.defProp false
set_option maxRecDepth 100000
namespace Go.Proofs.Ytoojnagdenoknaa.IL
open Go Go.RowKit PL
def eRg(x:Rg):List IV:=[.int .i64 x.id,.int .i64 x.cls]
theorem kS(x:Rg):Cl1 (eRg x):=(zS (zE _ _) rfl (zS (zE _ _) rfl yT))
theorem sRg_0(x:Rg):(eRg x).length=2:=rfl
theorem sRg_1(x:Rg):(eRg x)[0]?=some (.int .i64 x.id):=rfl
theorem sRg_2(x:Rg):(eRg x)[1]?=some (.int .i64 x.cls):=rfl
theorem sRg_3(x:Rg):ipart true 2 0 (eRg x)=some (.agg (eRg x)):=rfl
theorem sRg_4(x:Rg):(∀v∈eRg x,v.one=true)=True:=eq_true fun v h=>(kS x v h).2
theorem sRg_5(x:Rg): ∀o cs,splice (eRg x) o cs=splice [.int .i64 x.id,.int .i64 x.cls] o cs:=fun _ _=>rfl
def sRg(x:Rg):=And.intro (sRg_0 x) (And.intro (sRg_1 x) (And.intro (sRg_2 x) (And.intro (sRg_3 x) (And.intro (sRg_4 x) (sRg_5 x)))))
def eOpd(x:Opd):List IV:=[.int .i64 x.kind,.int .i64 x.cls,.int .i64 x.n,.int .i64 x.tag]
theorem ye(x:Opd):Cl1 (eOpd x):=(zS (zE _ _) rfl (zS (zE _ _) rfl (zS (zE _ _) rfl (zS (zE _ _) rfl yT))))
theorem sOpd_0(x:Opd):(eOpd x).length=4:=rfl
theorem sOpd_1(x:Opd):(eOpd x)[0]?=some (.int .i64 x.kind):=rfl
theorem sOpd_2(x:Opd):(eOpd x)[1]?=some (.int .i64 x.cls):=rfl
theorem sOpd_3(x:Opd):(eOpd x)[2]?=some (.int .i64 x.n):=rfl
theorem sOpd_4(x:Opd):(eOpd x)[3]?=some (.int .i64 x.tag):=rfl
theorem sOpd_5(x:Opd):ipart true 4 0 (eOpd x)=some (.agg (eOpd x)):=rfl
theorem sOpd_6(x:Opd):(∀v∈eOpd x,v.one=true)=True:=eq_true fun v h=>(ye x v h).2
theorem sOpd_7(x:Opd): ∀o cs,splice (eOpd x) o cs=splice [.int .i64 x.kind,.int .i64 x.cls,.int .i64 x.n,.int .i64 x.tag] o cs:=fun _ _=>rfl
def sOpd(x:Opd):=And.intro (sOpd_0 x) (And.intro (sOpd_1 x) (And.intro (sOpd_2 x) (And.intro (sOpd_3 x) (And.intro (sOpd_4 x) (And.intro (sOpd_5 x) (And.intro (sOpd_6 x) (sOpd_7 x)))))))
def eIns(x:Ins):List IV:=[.int .i64 x.op,.int .i64 x.dst.kind,.int .i64 x.dst.cls,.int .i64 x.dst.n,.int .i64 x.dst.tag,.sim (x.args.map eOpd) false,.str x.name,.int .i64 x.off,.sim (x.labels.map eStr) false,.sim (x.cases.map eInt) false]
theorem cl_eIns(x:Ins):Cl1 (eIns x):=(zS (zE _ _) rfl (zS (zE _ _) rfl (zS (zE _ _) rfl (zS (zE _ _) rfl (zS (zE _ _) rfl (zS (zY ye _) rfl (zS (zq _) rfl (zS (zE _ _) rfl (zS (zY cl_eStr _) rfl (zS (zY zi _) rfl yT))))))))))
theorem sIns_0(x:Ins):(eIns x).length=10:=rfl
theorem sIns_1(x:Ins):(eIns x)[0]?=some (.int .i64 x.op):=rfl
theorem sIns_2(x:Ins):(eIns x)[1]?=some (.int .i64 x.dst.kind):=rfl
theorem sIns_3(x:Ins):(eIns x)[2]?=some (.int .i64 x.dst.cls):=rfl
theorem sIns_4(x:Ins):(eIns x)[3]?=some (.int .i64 x.dst.n):=rfl
theorem sIns_5(x:Ins):(eIns x)[4]?=some (.int .i64 x.dst.tag):=rfl
theorem sIns_6(x:Ins):(eIns x)[5]?=some (.sim (x.args.map eOpd) false):=rfl
theorem sIns_7(x:Ins):(eIns x)[6]?=some (.str x.name):=rfl
theorem sIns_8(x:Ins):(eIns x)[7]?=some (.int .i64 x.off):=rfl
theorem sIns_9(x:Ins):(eIns x)[8]?=some (.sim (x.labels.map eStr) false):=rfl
theorem sIns_10(x:Ins):(eIns x)[9]?=some (.sim (x.cases.map eInt) false):=rfl
theorem sIns_11(x:Ins):ipart true 10 0 (eIns x)=some (.agg (eIns x)):=rfl
theorem sIns_12(x:Ins):ipart true 4 1 (eIns x)=some (.agg (eOpd x.dst)):=rfl
theorem sIns_13(x:Ins):(∀v∈eIns x,v.one=true)=True:=eq_true fun v h=>(cl_eIns x v h).2
theorem sIns_14(x:Ins): ∀o cs,splice (eIns x) o cs=splice [.int .i64 x.op,.int .i64 x.dst.kind,.int .i64 x.dst.cls,.int .i64 x.dst.n,.int .i64 x.dst.tag,.sim (x.args.map eOpd) false,.str x.name,.int .i64 x.off,.sim (x.labels.map eStr) false,.sim (x.cases.map eInt) false] o cs:=fun _ _=>rfl
def sIns(x:Ins):=And.intro (sIns_0 x) (And.intro (sIns_1 x) (And.intro (sIns_2 x) (And.intro (sIns_3 x) (And.intro (sIns_4 x) (And.intro (sIns_5 x) (And.intro (sIns_6 x) (And.intro (sIns_7 x) (And.intro (sIns_8 x) (And.intro (sIns_9 x) (And.intro (sIns_10 x) (And.intro (sIns_11 x) (And.intro (sIns_12 x) (And.intro (sIns_13 x) (sIns_14 x))))))))))))))
def eBl(x:Bl):List IV:=[.str x.label,.bool x.edge,.sim (x.ins.map eOpd) false,.sim (x.code.map eIns) false]
theorem zzJ(x:Bl):Cl1 (eBl x):=(zS (zq _) rfl (zS (zX _) rfl (zS (zY ye _) rfl (zS (zY cl_eIns _) rfl yT))))
theorem sBl_0(x:Bl):(eBl x).length=4:=rfl
theorem sBl_1(x:Bl):(eBl x)[0]?=some (.str x.label):=rfl
theorem sBl_2(x:Bl):(eBl x)[1]?=some (.bool x.edge):=rfl
theorem sBl_3(x:Bl):(eBl x)[2]?=some (.sim (x.ins.map eOpd) false):=rfl
theorem sBl_4(x:Bl):(eBl x)[3]?=some (.sim (x.code.map eIns) false):=rfl
theorem sBl_5(x:Bl):ipart true 4 0 (eBl x)=some (.agg (eBl x)):=rfl
theorem sBl_6(x:Bl):(∀v∈eBl x,v.one=true)=True:=eq_true fun v h=>(zzJ x v h).2
theorem sBl_7(x:Bl): ∀o cs,splice (eBl x) o cs=splice [.str x.label,.bool x.edge,.sim (x.ins.map eOpd) false,.sim (x.code.map eIns) false] o cs:=fun _ _=>rfl
def sBl(x:Bl):=And.intro (sBl_0 x) (And.intro (sBl_1 x) (And.intro (sBl_2 x) (And.intro (sBl_3 x) (And.intro (sBl_4 x) (And.intro (sBl_5 x) (And.intro (sBl_6 x) (sBl_7 x)))))))
def eFnc(x:Fnc):List IV:=[.bool x.machine,.str x.name,.sim (x.regs.map eRg) false,.sim (x.params.map eOpd) false,.sim (x.blocks.map eBl) false]
theorem cl_eFnc(x:Fnc):Cl1 (eFnc x):=(zS (zX _) rfl (zS (zq _) rfl (zS (zY kS _) rfl (zS (zY ye _) rfl (zS (zY zzJ _) rfl yT)))))
theorem sFnc_0(x:Fnc):(eFnc x).length=5:=rfl
theorem sFnc_1(x:Fnc):(eFnc x)[0]?=some (.bool x.machine):=rfl
theorem sFnc_2(x:Fnc):(eFnc x)[1]?=some (.str x.name):=rfl
theorem sFnc_3(x:Fnc):(eFnc x)[2]?=some (.sim (x.regs.map eRg) false):=rfl
theorem sFnc_4(x:Fnc):(eFnc x)[3]?=some (.sim (x.params.map eOpd) false):=rfl
theorem sFnc_5(x:Fnc):(eFnc x)[4]?=some (.sim (x.blocks.map eBl) false):=rfl
theorem sFnc_6(x:Fnc):ipart true 5 0 (eFnc x)=some (.agg (eFnc x)):=rfl
theorem sFnc_7(x:Fnc):(∀v∈eFnc x,v.one=true)=True:=eq_true fun v h=>(cl_eFnc x v h).2
theorem sFnc_8(x:Fnc): ∀o cs,splice (eFnc x) o cs=splice [.bool x.machine,.str x.name,.sim (x.regs.map eRg) false,.sim (x.params.map eOpd) false,.sim (x.blocks.map eBl) false] o cs:=fun _ _=>rfl
def sFnc(x:Fnc):=And.intro (sFnc_0 x) (And.intro (sFnc_1 x) (And.intro (sFnc_2 x) (And.intro (sFnc_3 x) (And.intro (sFnc_4 x) (And.intro (sFnc_5 x) (And.intro (sFnc_6 x) (And.intro (sFnc_7 x) (sFnc_8 x))))))))
def eDIns(x:DIns):List IV:=[.int .u8 x.op,.int .u8 x.d,.int .u8 x.a,.int .u8 x.b,.int .i16 x.n]
theorem cl_eDIns(x:DIns):Cl1 (eDIns x):=(zS (zE _ _) rfl (zS (zE _ _) rfl (zS (zE _ _) rfl (zS (zE _ _) rfl (zS (zE _ _) rfl yT)))))
theorem sDIns_0(x:DIns):(eDIns x).length=5:=rfl
theorem sDIns_1(x:DIns):(eDIns x)[0]?=some (.int .u8 x.op):=rfl
theorem sDIns_2(x:DIns):(eDIns x)[1]?=some (.int .u8 x.d):=rfl
theorem sDIns_3(x:DIns):(eDIns x)[2]?=some (.int .u8 x.a):=rfl
theorem sDIns_4(x:DIns):(eDIns x)[3]?=some (.int .u8 x.b):=rfl
theorem sDIns_5(x:DIns):(eDIns x)[4]?=some (.int .i16 x.n):=rfl
theorem sDIns_6(x:DIns):ipart true 5 0 (eDIns x)=some (.agg (eDIns x)):=rfl
theorem sDIns_7(x:DIns):(∀v∈eDIns x,v.one=true)=True:=eq_true fun v h=>(cl_eDIns x v h).2
theorem sDIns_8(x:DIns): ∀o cs,splice (eDIns x) o cs=splice [.int .u8 x.op,.int .u8 x.d,.int .u8 x.a,.int .u8 x.b,.int .i16 x.n] o cs:=fun _ _=>rfl
def sDIns(x:DIns):=And.intro (sDIns_0 x) (And.intro (sDIns_1 x) (And.intro (sDIns_2 x) (And.intro (sDIns_3 x) (And.intro (sDIns_4 x) (And.intro (sDIns_5 x) (And.intro (sDIns_6 x) (And.intro (sDIns_7 x) (sDIns_8 x))))))))
def wDIns(x:DIns):Prop:=(Lit.int .u8 x.op).wf=true∧(Lit.int .u8 x.d).wf=true∧(Lit.int .u8 x.a).wf=true∧(Lit.int .u8 x.b).wf=true∧(Lit.int .i16 x.n).wf=true
def eDBl(x:DBl):List IV:=[.sim (x.code.map eDIns) false,.int .u8 x.term,.int .u8 x.a,.int .u8 x.b,.int .u8 x.v]
theorem cl_eDBl(x:DBl):Cl1 (eDBl x):=(zS (zY cl_eDIns _) rfl (zS (zE _ _) rfl (zS (zE _ _) rfl (zS (zE _ _) rfl (zS (zE _ _) rfl yT)))))
theorem sDBl_0(x:DBl):(eDBl x).length=5:=rfl
theorem sDBl_1(x:DBl):(eDBl x)[0]?=some (.sim (x.code.map eDIns) false):=rfl
theorem sDBl_2(x:DBl):(eDBl x)[1]?=some (.int .u8 x.term):=rfl
theorem sDBl_3(x:DBl):(eDBl x)[2]?=some (.int .u8 x.a):=rfl
theorem sDBl_4(x:DBl):(eDBl x)[3]?=some (.int .u8 x.b):=rfl
theorem sDBl_5(x:DBl):(eDBl x)[4]?=some (.int .u8 x.v):=rfl
theorem sDBl_6(x:DBl):ipart true 5 0 (eDBl x)=some (.agg (eDBl x)):=rfl
theorem sDBl_7(x:DBl):(∀v∈eDBl x,v.one=true)=True:=eq_true fun v h=>(cl_eDBl x v h).2
theorem sDBl_8(x:DBl): ∀o cs,splice (eDBl x) o cs=splice [.sim (x.code.map eDIns) false,.int .u8 x.term,.int .u8 x.a,.int .u8 x.b,.int .u8 x.v] o cs:=fun _ _=>rfl
def sDBl(x:DBl):=And.intro (sDBl_0 x) (And.intro (sDBl_1 x) (And.intro (sDBl_2 x) (And.intro (sDBl_3 x) (And.intro (sDBl_4 x) (And.intro (sDBl_5 x) (And.intro (sDBl_6 x) (And.intro (sDBl_7 x) (sDBl_8 x))))))))
def wDBl(x:DBl):Prop:=(∀y∈x.code,wDIns y)∧(Lit.int .u8 x.term).wf=true∧(Lit.int .u8 x.a).wf=true∧(Lit.int .u8 x.b).wf=true∧(Lit.int .u8 x.v).wf=true
def eDrf(x:Drf):List IV:=[.int .u8 x.g,.int .u8 x.x,.int .u8 x.params,.sim (x.blocks.map eDBl) false]
theorem cl_eDrf(x:Drf):Cl1 (eDrf x):=(zS (zE _ _) rfl (zS (zE _ _) rfl (zS (zE _ _) rfl (zS (zY cl_eDBl _) rfl yT))))
theorem sDrf_0(x:Drf):(eDrf x).length=4:=rfl
theorem sDrf_1(x:Drf):(eDrf x)[0]?=some (.int .u8 x.g):=rfl
theorem sDrf_2(x:Drf):(eDrf x)[1]?=some (.int .u8 x.x):=rfl
theorem sDrf_3(x:Drf):(eDrf x)[2]?=some (.int .u8 x.params):=rfl
theorem sDrf_4(x:Drf):(eDrf x)[3]?=some (.sim (x.blocks.map eDBl) false):=rfl
theorem sDrf_5(x:Drf):ipart true 4 0 (eDrf x)=some (.agg (eDrf x)):=rfl
theorem sDrf_6(x:Drf):(∀v∈eDrf x,v.one=true)=True:=eq_true fun v h=>(cl_eDrf x v h).2
theorem sDrf_7(x:Drf): ∀o cs,splice (eDrf x) o cs=splice [.int .u8 x.g,.int .u8 x.x,.int .u8 x.params,.sim (x.blocks.map eDBl) false] o cs:=fun _ _=>rfl
def sDrf(x:Drf):=And.intro (sDrf_0 x) (And.intro (sDrf_1 x) (And.intro (sDrf_2 x) (And.intro (sDrf_3 x) (And.intro (sDrf_4 x) (And.intro (sDrf_5 x) (And.intro (sDrf_6 x) (sDrf_7 x)))))))
def wDrf(x:Drf):Prop:=(Lit.int .u8 x.g).wf=true∧(Lit.int .u8 x.x).wf=true∧(Lit.int .u8 x.params).wf=true∧(∀y∈x.blocks,wDBl y)
def zI(x:zD):List IV:=[.int .i64 x.n,.sim (x.words.map (eI .u64)) false]
theorem yA(x:zD):Cl1 (zI x):=(zS (zE _ _) rfl (zS (zY (cl_eI .u64) _) rfl yT))
theorem sbits_Set_0(x:zD):(zI x).length=2:=rfl
theorem sbits_Set_1(x:zD):(zI x)[0]?=some (.int .i64 x.n):=rfl
theorem sbits_Set_2(x:zD):(zI x)[1]?=some (.sim (x.words.map (eI .u64)) false):=rfl
theorem sbits_Set_3(x:zD):ipart true 2 0 (zI x)=some (.agg (zI x)):=rfl
theorem sbits_Set_4(x:zD):(∀v∈zI x,v.one=true)=True:=eq_true fun v h=>(yA x v h).2
theorem sbits_Set_5(x:zD): ∀o cs,splice (zI x) o cs=splice [.int .i64 x.n,.sim (x.words.map (eI .u64)) false] o cs:=fun _ _=>rfl
def kX(x:zD):=And.intro (sbits_Set_0 x) (And.intro (sbits_Set_1 x) (And.intro (sbits_Set_2 x) (And.intro (sbits_Set_3 x) (And.intro (sbits_Set_4 x) (sbits_Set_5 x)))))
def zM(x:za):List IV:=[.int .i64 x.n,.mim (x.body.map (ePr eInt (eP zI)))]
theorem ya(x:za):Cl1 (zM x):=(zS (zE _ _) rfl (zS (cl_mim (cl_ePr zi (cl_eP yA)) _) rfl yT))
theorem sloops_Loops_0(x:za):(zM x).length=2:=rfl
theorem sloops_Loops_1(x:za):(zM x)[0]?=some (.int .i64 x.n):=rfl
theorem sloops_Loops_2(x:za):(zM x)[1]?=some (.mim (x.body.map (ePr eInt (eP zI)))):=rfl
theorem sloops_Loops_3(x:za):ipart true 2 0 (zM x)=some (.agg (zM x)):=rfl
theorem sloops_Loops_4(x:za):(∀v∈zM x,v.one=true)=True:=eq_true fun v h=>(ya x v h).2
theorem sloops_Loops_5(x:za): ∀o cs,splice (zM x) o cs=splice [.int .i64 x.n,.mim (x.body.map (ePr eInt (eP zI)))] o cs:=fun _ _=>rfl
def yN(x:za):=And.intro (sloops_Loops_0 x) (And.intro (sloops_Loops_1 x) (And.intro (sloops_Loops_2 x) (And.intro (sloops_Loops_3 x) (And.intro (sloops_Loops_4 x) (sloops_Loops_5 x)))))
def zG(x:zL):List IV:=[.sim (x.succ.map (eS eInt)) false,.sim (x.pred.map (eS eInt)) false]
theorem yG(x:zL):Cl1 (zG x):=(zS (zY (cl_eS zi) _) rfl (zS (zY (cl_eS zi) _) rfl yT))
theorem sgraph_Graph_0(x:zL):(zG x).length=2:=rfl
theorem sgraph_Graph_1(x:zL):(zG x)[0]?=some (.sim (x.succ.map (eS eInt)) false):=rfl
theorem sgraph_Graph_2(x:zL):(zG x)[1]?=some (.sim (x.pred.map (eS eInt)) false):=rfl
theorem sgraph_Graph_3(x:zL):ipart true 2 0 (zG x)=some (.agg (zG x)):=rfl
theorem sgraph_Graph_4(x:zL):(∀v∈zG x,v.one=true)=True:=eq_true fun v h=>(yG x v h).2
theorem sgraph_Graph_5(x:zL): ∀o cs,splice (zG x) o cs=splice [.sim (x.succ.map (eS eInt)) false,.sim (x.pred.map (eS eInt)) false] o cs:=fun _ _=>rfl
def yk(x:zL):=And.intro (sgraph_Graph_0 x) (And.intro (sgraph_Graph_1 x) (And.intro (sgraph_Graph_2 x) (And.intro (sgraph_Graph_3 x) (And.intro (sgraph_Graph_4 x) (sgraph_Graph_5 x)))))
def zQ(x:zF):List IV:=[.bool x.f.machine,.str x.f.name,.sim (x.f.regs.map eRg) false,.sim (x.f.params.map eOpd) false,.sim (x.f.blocks.map eBl) false,.sim (x.ids.a0.map eInt) false,.sim (x.ids.a1.map eInt) false,.sim (x.has.map eInt) false]
theorem kO(x:zF):Cl1 (zQ x):=(zS (zX _) rfl (zS (zq _) rfl (zS (zY kS _) rfl (zS (zY ye _) rfl (zS (zY zzJ _) rfl (zS (zY zi _) rfl (zS (zY zi _) rfl (zS (zY zi _) rfl yT))))))))
theorem zzi(x:zF):(zQ x).length=8:=rfl
theorem zzh(x:zF):(zQ x)[0]?=some (.bool x.f.machine):=rfl
theorem zzg(x:zF):(zQ x)[1]?=some (.str x.f.name):=rfl
theorem zzf(x:zF):(zQ x)[2]?=some (.sim (x.f.regs.map eRg) false):=rfl
theorem zze(x:zF):(zQ x)[3]?=some (.sim (x.f.params.map eOpd) false):=rfl
theorem zzd(x:zF):(zQ x)[4]?=some (.sim (x.f.blocks.map eBl) false):=rfl
theorem zzc(x:zF):(zQ x)[5]?=some (.sim (x.ids.a0.map eInt) false):=rfl
theorem zzb(x:zF):(zQ x)[6]?=some (.sim (x.ids.a1.map eInt) false):=rfl
theorem zza(x:zF):(zQ x)[7]?=some (.sim (x.has.map eInt) false):=rfl
theorem zzZ(x:zF):ipart true 8 0 (zQ x)=some (.agg (zQ x)):=rfl
theorem zzP(x:zF):ipart true 5 0 (zQ x)=some (.agg (eFnc x.f)):=rfl
theorem zzO(x:zF):ipart true 2 5 (zQ x)=some (.agg (eA2 (eS eInt) x.ids)):=rfl
theorem zzN(x:zF):(∀v∈zQ x,v.one=true)=True:=eq_true fun v h=>(kO x v h).2
theorem zzM(x:zF): ∀o cs,splice (zQ x) o cs=splice [.bool x.f.machine,.str x.f.name,.sim (x.f.regs.map eRg) false,.sim (x.f.params.map eOpd) false,.sim (x.f.blocks.map eBl) false,.sim (x.ids.a0.map eInt) false,.sim (x.ids.a1.map eInt) false,.sim (x.has.map eInt) false] o cs:=fun _ _=>rfl
def yx(x:zF):=And.intro (zzi x) (And.intro (zzh x) (And.intro (zzg x) (And.intro (zzf x) (And.intro (zze x) (And.intro (zzd x) (And.intro (zzc x) (And.intro (zzb x) (And.intro (zza x) (And.intro (zzZ x) (And.intro (zzP x) (And.intro (zzO x) (And.intro (zzN x) (zzM x)))))))))))))
def zh(x:dom_Tree):List IV:=[.sim (x.idom.map eInt) false,.sim (x.order.map eInt) false]
theorem kE(x:dom_Tree):Cl1 (zh x):=(zS (zY zi _) rfl (zS (zY zi _) rfl yT))
theorem sdom_Tree_0(x:dom_Tree):(zh x).length=2:=rfl
theorem sdom_Tree_1(x:dom_Tree):(zh x)[0]?=some (.sim (x.idom.map eInt) false):=rfl
theorem sdom_Tree_2(x:dom_Tree):(zh x)[1]?=some (.sim (x.order.map eInt) false):=rfl
theorem sdom_Tree_3(x:dom_Tree):ipart true 2 0 (zh x)=some (.agg (zh x)):=rfl
theorem sdom_Tree_4(x:dom_Tree):(∀v∈zh x,v.one=true)=True:=eq_true fun v h=>(kE x v h).2
theorem sdom_Tree_5(x:dom_Tree): ∀o cs,splice (zh x) o cs=splice [.sim (x.idom.map eInt) false,.sim (x.order.map eInt) false] o cs:=fun _ _=>rfl
def kW(x:dom_Tree):=And.intro (sdom_Tree_0 x) (And.intro (sdom_Tree_1 x) (And.intro (sdom_Tree_2 x) (And.intro (sdom_Tree_3 x) (And.intro (sdom_Tree_4 x) (sdom_Tree_5 x)))))
theorem sA56_0(x:A2 Int):(eA2 eInt x).length=2:=rfl
theorem sA56_1(x:A2 Int):(eA2 eInt x)[0]?=some (.int .i64 x.a0):=rfl
theorem sA56_2(x:A2 Int):(eA2 eInt x)[1]?=some (.int .i64 x.a1):=rfl
theorem sA56_3(x:A2 Int):ipart true 2 0 (eA2 eInt x)=some (.agg (eA2 eInt x)):=rfl
theorem sA56_4(x:A2 Int):(∀v∈eA2 eInt x,v.one=true)=True:=eq_true fun v h=>((cl_eA2 zi) x v h).2
theorem sA56_5(x:A2 Int): ∀o cs,splice (eA2 eInt x) o cs=splice [.int .i64 x.a0,.int .i64 x.a1] o cs:=fun _ _=>rfl
def sA56(x:A2 Int):=And.intro (sA56_0 x) (And.intro (sA56_1 x) (And.intro (sA56_2 x) (And.intro (sA56_3 x) (And.intro (sA56_4 x) (sA56_5 x)))))
theorem qc56(a b:A2 Int):eqCells [.i,.i] (eA2 eInt a) (eA2 eInt b)=some (decide (a=b)):=by
 refine(eqC_i (eqC_i eqC_n)).trans ?_
 congr 2
 rcases a with ⟨x0,x1⟩
 rcases b with ⟨y0,y1⟩
 simp[and_assoc]
def q56{c:Bool}(a b:A2 Int):=q_agg (c:=c) ty56 rfl rfl (qc56 a b)
theorem sA169_0(x:A2 (List (List Int))):(eA2 (eS (eS eInt)) x).length=2:=rfl
theorem sA169_1(x:A2 (List (List Int))):(eA2 (eS (eS eInt)) x)[0]?=some (.sim (x.a0.map (eS eInt)) false):=rfl
theorem sA169_2(x:A2 (List (List Int))):(eA2 (eS (eS eInt)) x)[1]?=some (.sim (x.a1.map (eS eInt)) false):=rfl
theorem sA169_3(x:A2 (List (List Int))):ipart true 2 0 (eA2 (eS (eS eInt)) x)=some (.agg (eA2 (eS (eS eInt)) x)):=rfl
theorem sA169_4(x:A2 (List (List Int))):(∀v∈eA2 (eS (eS eInt)) x,v.one=true)=True:=eq_true fun v h=>((cl_eA2 (cl_eS (cl_eS zi))) x v h).2
theorem sA169_5(x:A2 (List (List Int))): ∀o cs,splice (eA2 (eS (eS eInt)) x) o cs=splice [.sim (x.a0.map (eS eInt)) false,.sim (x.a1.map (eS eInt)) false] o cs:=fun _ _=>rfl
def sA169(x:A2 (List (List Int))):=And.intro (sA169_0 x) (And.intro (sA169_1 x) (And.intro (sA169_2 x) (And.intro (sA169_3 x) (And.intro (sA169_4 x) (sA169_5 x)))))
end Go.Proofs.Ytoojnagdenoknaa.IL
