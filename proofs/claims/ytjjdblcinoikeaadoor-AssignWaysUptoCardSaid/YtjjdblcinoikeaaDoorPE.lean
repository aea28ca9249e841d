/- The cells of the program's data. Printed by types.py. -/
import Derived.Test.YtjjdblcinoikeaaDoorILT
import Derived.Test.YtjjdblcinoikeaaDoorPE0
import Derived.Test.YtjjdblcinoikeaaDoorPD
set_option linter.unusedVariables false
set_option linter.unusedSimpArgs false
set_option linter.defProp false
set_option maxRecDepth 100000
namespace Go.Proofs.YtjjdblcinoikeaaDoor.IL
open Go Go.RowKit PL
def eRg(x:Rg):List IV:=[.int .i64 x.id,.int .i64 x.cls]
theorem yp(x:Rg):Cl1 (eRg x):=(zO (zE _ _) rfl (zO (zE _ _) rfl yX))
theorem sRg_0(x:Rg):(eRg x).length=2:=rfl
theorem sRg_1(x:Rg):(eRg x)[0]?=some (.int .i64 x.id):=rfl
theorem sRg_2(x:Rg):(eRg x)[1]?=some (.int .i64 x.cls):=rfl
theorem sRg_3(x:Rg):ipart true 2 0 (eRg x)=some (.agg (eRg x)):=rfl
theorem sRg_4(x:Rg):(∀v∈eRg x,v.one=true)=True:=eq_true fun v h=>(yp x v h).2
theorem sRg_5(x:Rg): ∀o cs,splice (eRg x) o cs=splice [.int .i64 x.id,.int .i64 x.cls] o cs:=fun _ _=>rfl
def sRg(x:Rg):=And.intro (sRg_0 x) (And.intro (sRg_1 x) (And.intro (sRg_2 x) (And.intro (sRg_3 x) (And.intro (sRg_4 x) (sRg_5 x)))))
def eOpd(x:Opd):List IV:=[.int .i64 x.kind,.int .i64 x.cls,.int .i64 x.n,.int .i64 x.tag]
theorem yJ(x:Opd):Cl1 (eOpd x):=(zO (zE _ _) rfl (zO (zE _ _) rfl (zO (zE _ _) rfl (zO (zE _ _) rfl yX))))
theorem sOpd_0(x:Opd):(eOpd x).length=4:=rfl
theorem sOpd_1(x:Opd):(eOpd x)[0]?=some (.int .i64 x.kind):=rfl
theorem sOpd_2(x:Opd):(eOpd x)[1]?=some (.int .i64 x.cls):=rfl
theorem sOpd_3(x:Opd):(eOpd x)[2]?=some (.int .i64 x.n):=rfl
theorem sOpd_4(x:Opd):(eOpd x)[3]?=some (.int .i64 x.tag):=rfl
theorem sOpd_5(x:Opd):ipart true 4 0 (eOpd x)=some (.agg (eOpd x)):=rfl
theorem sOpd_6(x:Opd):(∀v∈eOpd x,v.one=true)=True:=eq_true fun v h=>(yJ x v h).2
theorem sOpd_7(x:Opd): ∀o cs,splice (eOpd x) o cs=splice [.int .i64 x.kind,.int .i64 x.cls,.int .i64 x.n,.int .i64 x.tag] o cs:=fun _ _=>rfl
def sOpd(x:Opd):=And.intro (sOpd_0 x) (And.intro (sOpd_1 x) (And.intro (sOpd_2 x) (And.intro (sOpd_3 x) (And.intro (sOpd_4 x) (And.intro (sOpd_5 x) (And.intro (sOpd_6 x) (sOpd_7 x)))))))
def eIns(x:Ins):List IV:=[.int .i64 x.op,.int .i64 x.dst.kind,.int .i64 x.dst.cls,.int .i64 x.dst.n,.int .i64 x.dst.tag,.sim (x.args.map eOpd) false,.str x.name,.int .i64 x.off,.sim (x.labels.map eStr) false,.sim (x.cases.map eInt) false]
theorem cl_eIns(x:Ins):Cl1 (eIns x):=(zO (zE _ _) rfl (zO (zE _ _) rfl (zO (zE _ _) rfl (zO (zE _ _) rfl (zO (zE _ _) rfl (zO (zR yJ _) rfl (zO (zi _) rfl (zO (zE _ _) rfl (zO (zR cl_eStr _) rfl (zO (zR ze _) rfl yX))))))))))
theorem sIns_0(x:Ins):(eIns x).length=10:=rfl
theorem sIns_1(x:Ins):(eIns x)[0]?=some (.int .i64 x.op):=rfl
theorem sIns_2(x:Ins):(eIns x)[1]?=some (.int .i64 x.dst.kind):=rfl
theorem sIns_3(x:Ins):(eIns x)[2]?=some (.int .i64 x.dst.cls):=rfl
theorem sIns_4(x:Ins):(eIns x)[3]?=some (.int .i64 x.dst.n):=rfl
theorem sIns_5(x:Ins):(eIns x)[4]?=some (.int .i64 x.dst.tag):=rfl
theorem sIns_6(x:Ins):(eIns x)[5]?=some (.sim (x.args.map eOpd) false):=rfl
theorem sIns_7(x:Ins):(eIns x)[6]?=some (.str x.name):=rfl
theorem sIns_8(x:Ins):(eIns x)[7]?=some (.int .i64 x.off):=rfl
theorem sIns_9(x:Ins):(eIns x)[8]?=some (.sim (x.labels.map eStr) false):=rfl
theorem sIns_10(x:Ins):(eIns x)[9]?=some (.sim (x.cases.map eInt) false):=rfl
theorem sIns_11(x:Ins):ipart true 10 0 (eIns x)=some (.agg (eIns x)):=rfl
theorem sIns_12(x:Ins):ipart true 4 1 (eIns x)=some (.agg (eOpd x.dst)):=rfl
theorem sIns_13(x:Ins):(∀v∈eIns x,v.one=true)=True:=eq_true fun v h=>(cl_eIns x v h).2
theorem sIns_14(x:Ins): ∀o cs,splice (eIns x) o cs=splice [.int .i64 x.op,.int .i64 x.dst.kind,.int .i64 x.dst.cls,.int .i64 x.dst.n,.int .i64 x.dst.tag,.sim (x.args.map eOpd) false,.str x.name,.int .i64 x.off,.sim (x.labels.map eStr) false,.sim (x.cases.map eInt) false] o cs:=fun _ _=>rfl
def sIns(x:Ins):=And.intro (sIns_0 x) (And.intro (sIns_1 x) (And.intro (sIns_2 x) (And.intro (sIns_3 x) (And.intro (sIns_4 x) (And.intro (sIns_5 x) (And.intro (sIns_6 x) (And.intro (sIns_7 x) (And.intro (sIns_8 x) (And.intro (sIns_9 x) (And.intro (sIns_10 x) (And.intro (sIns_11 x) (And.intro (sIns_12 x) (And.intro (sIns_13 x) (sIns_14 x))))))))))))))
def eBl(x:Bl):List IV:=[.str x.label,.bool x.edge,.sim (x.ins.map eOpd) false,.sim (x.code.map eIns) false]
theorem zzC(x:Bl):Cl1 (eBl x):=(zO (zi _) rfl (zO (zN _) rfl (zO (zR yJ _) rfl (zO (zR cl_eIns _) rfl yX))))
theorem sBl_0(x:Bl):(eBl x).length=4:=rfl
theorem sBl_1(x:Bl):(eBl x)[0]?=some (.str x.label):=rfl
theorem sBl_2(x:Bl):(eBl x)[1]?=some (.bool x.edge):=rfl
theorem sBl_3(x:Bl):(eBl x)[2]?=some (.sim (x.ins.map eOpd) false):=rfl
theorem sBl_4(x:Bl):(eBl x)[3]?=some (.sim (x.code.map eIns) false):=rfl
theorem sBl_5(x:Bl):ipart true 4 0 (eBl x)=some (.agg (eBl x)):=rfl
theorem sBl_6(x:Bl):(∀v∈eBl x,v.one=true)=True:=eq_true fun v h=>(zzC x v h).2
theorem sBl_7(x:Bl): ∀o cs,splice (eBl x) o cs=splice [.str x.label,.bool x.edge,.sim (x.ins.map eOpd) false,.sim (x.code.map eIns) false] o cs:=fun _ _=>rfl
def sBl(x:Bl):=And.intro (sBl_0 x) (And.intro (sBl_1 x) (And.intro (sBl_2 x) (And.intro (sBl_3 x) (And.intro (sBl_4 x) (And.intro (sBl_5 x) (And.intro (sBl_6 x) (sBl_7 x)))))))
def eFnc(x:Fnc):List IV:=[.bool x.machine,.str x.name,.sim (x.regs.map eRg) false,.sim (x.params.map eOpd) false,.sim (x.blocks.map eBl) false]
theorem cl_eFnc(x:Fnc):Cl1 (eFnc x):=(zO (zN _) rfl (zO (zi _) rfl (zO (zR yp _) rfl (zO (zR yJ _) rfl (zO (zR zzC _) rfl yX)))))
theorem sFnc_0(x:Fnc):(eFnc x).length=5:=rfl
theorem sFnc_1(x:Fnc):(eFnc x)[0]?=some (.bool x.machine):=rfl
theorem sFnc_2(x:Fnc):(eFnc x)[1]?=some (.str x.name):=rfl
theorem sFnc_3(x:Fnc):(eFnc x)[2]?=some (.sim (x.regs.map eRg) false):=rfl
theorem sFnc_4(x:Fnc):(eFnc x)[3]?=some (.sim (x.params.map eOpd) false):=rfl
theorem sFnc_5(x:Fnc):(eFnc x)[4]?=some (.sim (x.blocks.map eBl) false):=rfl
theorem sFnc_6(x:Fnc):ipart true 5 0 (eFnc x)=some (.agg (eFnc x)):=rfl
theorem sFnc_7(x:Fnc):(∀v∈eFnc x,v.one=true)=True:=eq_true fun v h=>(cl_eFnc x v h).2
theorem sFnc_8(x:Fnc): ∀o cs,splice (eFnc x) o cs=splice [.bool x.machine,.str x.name,.sim (x.regs.map eRg) false,.sim (x.params.map eOpd) false,.sim (x.blocks.map eBl) false] o cs:=fun _ _=>rfl
def sFnc(x:Fnc):=And.intro (sFnc_0 x) (And.intro (sFnc_1 x) (And.intro (sFnc_2 x) (And.intro (sFnc_3 x) (And.intro (sFnc_4 x) (And.intro (sFnc_5 x) (And.intro (sFnc_6 x) (And.intro (sFnc_7 x) (sFnc_8 x))))))))
def eDIns(x:DIns):List IV:=[.int .u8 x.op,.int .u8 x.d,.int .u8 x.a,.int .u8 x.b,.int .i16 x.n]
theorem cl_eDIns(x:DIns):Cl1 (eDIns x):=(zO (zE _ _) rfl (zO (zE _ _) rfl (zO (zE _ _) rfl (zO (zE _ _) rfl (zO (zE _ _) rfl yX)))))
theorem sDIns_0(x:DIns):(eDIns x).length=5:=rfl
theorem sDIns_1(x:DIns):(eDIns x)[0]?=some (.int .u8 x.op):=rfl
theorem sDIns_2(x:DIns):(eDIns x)[1]?=some (.int .u8 x.d):=rfl
theorem sDIns_3(x:DIns):(eDIns x)[2]?=some (.int .u8 x.a):=rfl
theorem sDIns_4(x:DIns):(eDIns x)[3]?=some (.int .u8 x.b):=rfl
theorem sDIns_5(x:DIns):(eDIns x)[4]?=some (.int .i16 x.n):=rfl
theorem sDIns_6(x:DIns):ipart true 5 0 (eDIns x)=some (.agg (eDIns x)):=rfl
theorem sDIns_7(x:DIns):(∀v∈eDIns x,v.one=true)=True:=eq_true fun v h=>(cl_eDIns x v h).2
theorem sDIns_8(x:DIns): ∀o cs,splice (eDIns x) o cs=splice [.int .u8 x.op,.int .u8 x.d,.int .u8 x.a,.int .u8 x.b,.int .i16 x.n] o cs:=fun _ _=>rfl
def sDIns(x:DIns):=And.intro (sDIns_0 x) (And.intro (sDIns_1 x) (And.intro (sDIns_2 x) (And.intro (sDIns_3 x) (And.intro (sDIns_4 x) (And.intro (sDIns_5 x) (And.intro (sDIns_6 x) (And.intro (sDIns_7 x) (sDIns_8 x))))))))
def wDIns(x:DIns):Prop:=(Lit.int .u8 x.op).wf=true∧(Lit.int .u8 x.d).wf=true∧(Lit.int .u8 x.a).wf=true∧(Lit.int .u8 x.b).wf=true∧(Lit.int .i16 x.n).wf=true
def eDBl(x:DBl):List IV:=[.sim (x.code.map eDIns) false,.int .u8 x.term,.int .u8 x.a,.int .u8 x.b,.int .u8 x.v]
theorem cl_eDBl(x:DBl):Cl1 (eDBl x):=(zO (zR cl_eDIns _) rfl (zO (zE _ _) rfl (zO (zE _ _) rfl (zO (zE _ _) rfl (zO (zE _ _) rfl yX)))))
theorem sDBl_0(x:DBl):(eDBl x).length=5:=rfl
theorem sDBl_1(x:DBl):(eDBl x)[0]?=some (.sim (x.code.map eDIns) false):=rfl
theorem sDBl_2(x:DBl):(eDBl x)[1]?=some (.int .u8 x.term):=rfl
theorem sDBl_3(x:DBl):(eDBl x)[2]?=some (.int .u8 x.a):=rfl
theorem sDBl_4(x:DBl):(eDBl x)[3]?=some (.int .u8 x.b):=rfl
theorem sDBl_5(x:DBl):(eDBl x)[4]?=some (.int .u8 x.v):=rfl
theorem sDBl_6(x:DBl):ipart true 5 0 (eDBl x)=some (.agg (eDBl x)):=rfl
theorem sDBl_7(x:DBl):(∀v∈eDBl x,v.one=true)=True:=eq_true fun v h=>(cl_eDBl x v h).2
theorem sDBl_8(x:DBl): ∀o cs,splice (eDBl x) o cs=splice [.sim (x.code.map eDIns) false,.int .u8 x.term,.int .u8 x.a,.int .u8 x.b,.int .u8 x.v] o cs:=fun _ _=>rfl
def sDBl(x:DBl):=And.intro (sDBl_0 x) (And.intro (sDBl_1 x) (And.intro (sDBl_2 x) (And.intro (sDBl_3 x) (And.intro (sDBl_4 x) (And.intro (sDBl_5 x) (And.intro (sDBl_6 x) (And.intro (sDBl_7 x) (sDBl_8 x))))))))
def wDBl(x:DBl):Prop:=(∀y∈x.code,wDIns y)∧(Lit.int .u8 x.term).wf=true∧(Lit.int .u8 x.a).wf=true∧(Lit.int .u8 x.b).wf=true∧(Lit.int .u8 x.v).wf=true
def eDrf(x:Drf):List IV:=[.int .u8 x.g,.int .u8 x.x,.int .u8 x.params,.sim (x.blocks.map eDBl) false]
theorem cl_eDrf(x:Drf):Cl1 (eDrf x):=(zO (zE _ _) rfl (zO (zE _ _) rfl (zO (zE _ _) rfl (zO (zR cl_eDBl _) rfl yX))))
theorem sDrf_0(x:Drf):(eDrf x).length=4:=rfl
theorem sDrf_1(x:Drf):(eDrf x)[0]?=some (.int .u8 x.g):=rfl
theorem sDrf_2(x:Drf):(eDrf x)[1]?=some (.int .u8 x.x):=rfl
theorem sDrf_3(x:Drf):(eDrf x)[2]?=some (.int .u8 x.params):=rfl
theorem sDrf_4(x:Drf):(eDrf x)[3]?=some (.sim (x.blocks.map eDBl) false):=rfl
theorem sDrf_5(x:Drf):ipart true 4 0 (eDrf x)=some (.agg (eDrf x)):=rfl
theorem sDrf_6(x:Drf):(∀v∈eDrf x,v.one=true)=True:=eq_true fun v h=>(cl_eDrf x v h).2
theorem sDrf_7(x:Drf): ∀o cs,splice (eDrf x) o cs=splice [.int .u8 x.g,.int .u8 x.x,.int .u8 x.params,.sim (x.blocks.map eDBl) false] o cs:=fun _ _=>rfl
def sDrf(x:Drf):=And.intro (sDrf_0 x) (And.intro (sDrf_1 x) (And.intro (sDrf_2 x) (And.intro (sDrf_3 x) (And.intro (sDrf_4 x) (And.intro (sDrf_5 x) (And.intro (sDrf_6 x) (sDrf_7 x)))))))
def wDrf(x:Drf):Prop:=(Lit.int .u8 x.g).wf=true∧(Lit.int .u8 x.x).wf=true∧(Lit.int .u8 x.params).wf=true∧(∀y∈x.blocks,wDBl y)
def zJ(x:zD):List IV:=[.int .i64 x.n,.sim (x.words.map (eI .u64)) false]
theorem ya(x:zD):Cl1 (zJ x):=(zO (zE _ _) rfl (zO (zR (cl_eI .u64) _) rfl yX))
theorem sbits_Set_0(x:zD):(zJ x).length=2:=rfl
theorem sbits_Set_1(x:zD):(zJ x)[0]?=some (.int .i64 x.n):=rfl
theorem sbits_Set_2(x:zD):(zJ x)[1]?=some (.sim (x.words.map (eI .u64)) false):=rfl
theorem sbits_Set_3(x:zD):ipart true 2 0 (zJ x)=some (.agg (zJ x)):=rfl
theorem sbits_Set_4(x:zD):(∀v∈zJ x,v.one=true)=True:=eq_true fun v h=>(ya x v h).2
theorem sbits_Set_5(x:zD): ∀o cs,splice (zJ x) o cs=splice [.int .i64 x.n,.sim (x.words.map (eI .u64)) false] o cs:=fun _ _=>rfl
def kD(x:zD):=And.intro (sbits_Set_0 x) (And.intro (sbits_Set_1 x) (And.intro (sbits_Set_2 x) (And.intro (sbits_Set_3 x) (And.intro (sbits_Set_4 x) (sbits_Set_5 x)))))
def zI(x:zG):List IV:=[.bool x.f.machine,.str x.f.name,.sim (x.f.regs.map eRg) false,.sim (x.f.params.map eOpd) false,.sim (x.f.blocks.map eBl) false,.sim (x.ids.map eInt) false,.sim (x.in_.map (eP zJ)) false]
theorem yV(x:zG):Cl1 (zI x):=(zO (zN _) rfl (zO (zi _) rfl (zO (zR yp _) rfl (zO (zR yJ _) rfl (zO (zR zzC _) rfl (zO (zR ze _) rfl (zO (zR (cl_eP ya) _) rfl yX)))))))
theorem sassign_Known_0(x:zG):(zI x).length=7:=rfl
theorem sassign_Known_1(x:zG):(zI x)[0]?=some (.bool x.f.machine):=rfl
theorem sassign_Known_2(x:zG):(zI x)[1]?=some (.str x.f.name):=rfl
theorem sassign_Known_3(x:zG):(zI x)[2]?=some (.sim (x.f.regs.map eRg) false):=rfl
theorem sassign_Known_4(x:zG):(zI x)[3]?=some (.sim (x.f.params.map eOpd) false):=rfl
theorem sassign_Known_5(x:zG):(zI x)[4]?=some (.sim (x.f.blocks.map eBl) false):=rfl
theorem sassign_Known_6(x:zG):(zI x)[5]?=some (.sim (x.ids.map eInt) false):=rfl
theorem sassign_Known_7(x:zG):(zI x)[6]?=some (.sim (x.in_.map (eP zJ)) false):=rfl
theorem sassign_Known_8(x:zG):ipart true 7 0 (zI x)=some (.agg (zI x)):=rfl
theorem sassign_Known_9(x:zG):ipart true 5 0 (zI x)=some (.agg (eFnc x.f)):=rfl
theorem sassign_Known_10(x:zG):(∀v∈zI x,v.one=true)=True:=eq_true fun v h=>(yV x v h).2
theorem sassign_Known_11(x:zG): ∀o cs,splice (zI x) o cs=splice [.bool x.f.machine,.str x.f.name,.sim (x.f.regs.map eRg) false,.sim (x.f.params.map eOpd) false,.sim (x.f.blocks.map eBl) false,.sim (x.ids.map eInt) false,.sim (x.in_.map (eP zJ)) false] o cs:=fun _ _=>rfl
def yI(x:zG):=And.intro (sassign_Known_0 x) (And.intro (sassign_Known_1 x) (And.intro (sassign_Known_2 x) (And.intro (sassign_Known_3 x) (And.intro (sassign_Known_4 x) (And.intro (sassign_Known_5 x) (And.intro (sassign_Known_6 x) (And.intro (sassign_Known_7 x) (And.intro (sassign_Known_8 x) (And.intro (sassign_Known_9 x) (And.intro (sassign_Known_10 x) (sassign_Known_11 x)))))))))))
def zQ(x:zF):List IV:=[.bool x.f.machine,.str x.f.name,.sim (x.f.regs.map eRg) false,.sim (x.f.params.map eOpd) false,.sim (x.f.blocks.map eBl) false,.sim (x.ids.a0.map eInt) false,.sim (x.ids.a1.map eInt) false,.sim (x.has.map eInt) false]
theorem kG(x:zF):Cl1 (zQ x):=(zO (zN _) rfl (zO (zi _) rfl (zO (zR yp _) rfl (zO (zR yJ _) rfl (zO (zR zzC _) rfl (zO (zR ze _) rfl (zO (zR ze _) rfl (zO (zR ze _) rfl yX))))))))
theorem zzf(x:zF):(zQ x).length=8:=rfl
theorem zze(x:zF):(zQ x)[0]?=some (.bool x.f.machine):=rfl
theorem zzd(x:zF):(zQ x)[1]?=some (.str x.f.name):=rfl
theorem zzc(x:zF):(zQ x)[2]?=some (.sim (x.f.regs.map eRg) false):=rfl
theorem zzb(x:zF):(zQ x)[3]?=some (.sim (x.f.params.map eOpd) false):=rfl
theorem zza(x:zF):(zQ x)[4]?=some (.sim (x.f.blocks.map eBl) false):=rfl
theorem zzZ(x:zF):(zQ x)[5]?=some (.sim (x.ids.a0.map eInt) false):=rfl
theorem zzY(x:zF):(zQ x)[6]?=some (.sim (x.ids.a1.map eInt) false):=rfl
theorem zzX(x:zF):(zQ x)[7]?=some (.sim (x.has.map eInt) false):=rfl
theorem zzW(x:zF):ipart true 8 0 (zQ x)=some (.agg (zQ x)):=rfl
theorem zzM(x:zF):ipart true 5 0 (zQ x)=some (.agg (eFnc x.f)):=rfl
theorem zzL(x:zF):ipart true 2 5 (zQ x)=some (.agg (eA2 (eS eInt) x.ids)):=rfl
theorem zzK(x:zF):(∀v∈zQ x,v.one=true)=True:=eq_true fun v h=>(kG x v h).2
theorem zzJ(x:zF): ∀o cs,splice (zQ x) o cs=splice [.bool x.f.machine,.str x.f.name,.sim (x.f.regs.map eRg) false,.sim (x.f.params.map eOpd) false,.sim (x.f.blocks.map eBl) false,.sim (x.ids.a0.map eInt) false,.sim (x.ids.a1.map eInt) false,.sim (x.has.map eInt) false] o cs:=fun _ _=>rfl
def yr(x:zF):=And.intro (zzf x) (And.intro (zze x) (And.intro (zzd x) (And.intro (zzc x) (And.intro (zzb x) (And.intro (zza x) (And.intro (zzZ x) (And.intro (zzY x) (And.intro (zzX x) (And.intro (zzW x) (And.intro (zzM x) (And.intro (zzL x) (And.intro (zzK x) (zzJ x)))))))))))))
def zP(x:zV):List IV:=[.sim (x.succ.map (eS eInt)) false,.sim (x.pred.map (eS eInt)) false]
theorem yz(x:zV):Cl1 (zP x):=(zO (zR (cl_eS ze) _) rfl (zO (zR (cl_eS ze) _) rfl yX))
theorem sgraph_Graph_0(x:zV):(zP x).length=2:=rfl
theorem sgraph_Graph_1(x:zV):(zP x)[0]?=some (.sim (x.succ.map (eS eInt)) false):=rfl
theorem sgraph_Graph_2(x:zV):(zP x)[1]?=some (.sim (x.pred.map (eS eInt)) false):=rfl
theorem sgraph_Graph_3(x:zV):ipart true 2 0 (zP x)=some (.agg (zP x)):=rfl
theorem sgraph_Graph_4(x:zV):(∀v∈zP x,v.one=true)=True:=eq_true fun v h=>(yz x v h).2
theorem sgraph_Graph_5(x:zV): ∀o cs,splice (zP x) o cs=splice [.sim (x.succ.map (eS eInt)) false,.sim (x.pred.map (eS eInt)) false] o cs:=fun _ _=>rfl
def kK(x:zV):=And.intro (sgraph_Graph_0 x) (And.intro (sgraph_Graph_1 x) (And.intro (sgraph_Graph_2 x) (And.intro (sgraph_Graph_3 x) (And.intro (sgraph_Graph_4 x) (sgraph_Graph_5 x)))))
theorem sA90_0(x:A2 Int):(eA2 eInt x).length=2:=rfl
theorem sA90_1(x:A2 Int):(eA2 eInt x)[0]?=some (.int .i64 x.a0):=rfl
theorem sA90_2(x:A2 Int):(eA2 eInt x)[1]?=some (.int .i64 x.a1):=rfl
theorem sA90_3(x:A2 Int):ipart true 2 0 (eA2 eInt x)=some (.agg (eA2 eInt x)):=rfl
theorem sA90_4(x:A2 Int):(∀v∈eA2 eInt x,v.one=true)=True:=eq_true fun v h=>((cl_eA2 ze) x v h).2
theorem sA90_5(x:A2 Int): ∀o cs,splice (eA2 eInt x) o cs=splice [.int .i64 x.a0,.int .i64 x.a1] o cs:=fun _ _=>rfl
def sA90(x:A2 Int):=And.intro (sA90_0 x) (And.intro (sA90_1 x) (And.intro (sA90_2 x) (And.intro (sA90_3 x) (And.intro (sA90_4 x) (sA90_5 x)))))
theorem sA139_0(x:A2 (List (List Int))):(eA2 (eS (eS eInt)) x).length=2:=rfl
theorem sA139_1(x:A2 (List (List Int))):(eA2 (eS (eS eInt)) x)[0]?=some (.sim (x.a0.map (eS eInt)) false):=rfl
theorem sA139_2(x:A2 (List (List Int))):(eA2 (eS (eS eInt)) x)[1]?=some (.sim (x.a1.map (eS eInt)) false):=rfl
theorem sA139_3(x:A2 (List (List Int))):ipart true 2 0 (eA2 (eS (eS eInt)) x)=some (.agg (eA2 (eS (eS eInt)) x)):=rfl
theorem sA139_4(x:A2 (List (List Int))):(∀v∈eA2 (eS (eS eInt)) x,v.one=true)=True:=eq_true fun v h=>((cl_eA2 (cl_eS (cl_eS ze))) x v h).2
theorem sA139_5(x:A2 (List (List Int))): ∀o cs,splice (eA2 (eS (eS eInt)) x) o cs=splice [.sim (x.a0.map (eS eInt)) false,.sim (x.a1.map (eS eInt)) false] o cs:=fun _ _=>rfl
def sA139(x:A2 (List (List Int))):=And.intro (sA139_0 x) (And.intro (sA139_1 x) (And.intro (sA139_2 x) (And.intro (sA139_3 x) (And.intro (sA139_4 x) (sA139_5 x)))))
end Go.Proofs.YtjjdblcinoikeaaDoor.IL
