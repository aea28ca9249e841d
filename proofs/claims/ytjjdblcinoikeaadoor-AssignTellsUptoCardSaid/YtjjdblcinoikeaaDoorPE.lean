/- The cells of the program's data. Printed by types.py. -/
import Derived.Test.YtjjdblcinoikeaaDoorILT
import Derived.Test.YtjjdblcinoikeaaDoorPE0
import Derived.Test.YtjjdblcinoikeaaDoorPD
set_option linter.unusedVariables false
set_option linter.unusedSimpArgs false
set_option linter.defProp false
set_option maxRecDepth 100000
namespace Go.Proofs.YtjjdblcinoikeaaDoor.IL
open Go Go.RowKit PL
def eRg(x:Rg):List IV:=[.int .i64 x.id,.int .i64 x.cls]
theorem zzs(x:Rg):Cl1 (eRg x):=(zX (zF _ _) rfl (zX (zF _ _) rfl yp))
theorem sRg_0(x:Rg):(eRg x).length=2:=rfl
theorem sRg_1(x:Rg):(eRg x)[0]?=some (.int .i64 x.id):=rfl
theorem sRg_2(x:Rg):(eRg x)[1]?=some (.int .i64 x.cls):=rfl
theorem sRg_3(x:Rg):ipart true 2 0 (eRg x)=some (.agg (eRg x)):=rfl
theorem sRg_4(x:Rg):(∀v∈eRg x,v.one=true)=True:=eq_true fun v h=>(zzs x v h).2
theorem sRg_5(x:Rg): ∀o cs,splice (eRg x) o cs=splice [.int .i64 x.id,.int .i64 x.cls] o cs:=fun _ _=>rfl
def sRg(x:Rg):=And.intro (sRg_0 x) (And.intro (sRg_1 x) (And.intro (sRg_2 x) (And.intro (sRg_3 x) (And.intro (sRg_4 x) (sRg_5 x)))))
def wRg(x:Rg):Prop:=(Lit.int .i64 x.id).wf=true∧(Lit.int .i64 x.cls).wf=true
def eOpd(x:Opd):List IV:=[.int .i64 x.kind,.int .i64 x.cls,.int .i64 x.n,.int .i64 x.tag]
theorem kM(x:Opd):Cl1 (eOpd x):=(zX (zF _ _) rfl (zX (zF _ _) rfl (zX (zF _ _) rfl (zX (zF _ _) rfl yp))))
theorem sOpd_0(x:Opd):(eOpd x).length=4:=rfl
theorem sOpd_1(x:Opd):(eOpd x)[0]?=some (.int .i64 x.kind):=rfl
theorem sOpd_2(x:Opd):(eOpd x)[1]?=some (.int .i64 x.cls):=rfl
theorem sOpd_3(x:Opd):(eOpd x)[2]?=some (.int .i64 x.n):=rfl
theorem sOpd_4(x:Opd):(eOpd x)[3]?=some (.int .i64 x.tag):=rfl
theorem sOpd_5(x:Opd):ipart true 4 0 (eOpd x)=some (.agg (eOpd x)):=rfl
theorem sOpd_6(x:Opd):(∀v∈eOpd x,v.one=true)=True:=eq_true fun v h=>(kM x v h).2
theorem sOpd_7(x:Opd): ∀o cs,splice (eOpd x) o cs=splice [.int .i64 x.kind,.int .i64 x.cls,.int .i64 x.n,.int .i64 x.tag] o cs:=fun _ _=>rfl
def sOpd(x:Opd):=And.intro (sOpd_0 x) (And.intro (sOpd_1 x) (And.intro (sOpd_2 x) (And.intro (sOpd_3 x) (And.intro (sOpd_4 x) (And.intro (sOpd_5 x) (And.intro (sOpd_6 x) (sOpd_7 x)))))))
def wOpd(x:Opd):Prop:=(Lit.int .i64 x.kind).wf=true∧(Lit.int .i64 x.cls).wf=true∧(Lit.int .i64 x.n).wf=true∧(Lit.int .i64 x.tag).wf=true
def eIns(x:Ins):List IV:=[.int .i64 x.op,.int .i64 x.dst.kind,.int .i64 x.dst.cls,.int .i64 x.dst.n,.int .i64 x.dst.tag,.sim (x.args.map eOpd) false,.str x.name,.int .i64 x.off,.sim (x.labels.map eStr) false,.sim (x.cases.map eInt) false]
theorem cl_eIns(x:Ins):Cl1 (eIns x):=(zX (zF _ _) rfl (zX (zF _ _) rfl (zX (zF _ _) rfl (zX (zF _ _) rfl (zX (zF _ _) rfl (zX (zh kM _) rfl (zX (zy _) rfl (zX (zF _ _) rfl (zX (zh cl_eStr _) rfl (zX (zh zl _) rfl yp))))))))))
theorem sIns_0(x:Ins):(eIns x).length=10:=rfl
theorem sIns_1(x:Ins):(eIns x)[0]?=some (.int .i64 x.op):=rfl
theorem sIns_2(x:Ins):(eIns x)[1]?=some (.int .i64 x.dst.kind):=rfl
theorem sIns_3(x:Ins):(eIns x)[2]?=some (.int .i64 x.dst.cls):=rfl
theorem sIns_4(x:Ins):(eIns x)[3]?=some (.int .i64 x.dst.n):=rfl
theorem sIns_5(x:Ins):(eIns x)[4]?=some (.int .i64 x.dst.tag):=rfl
theorem sIns_6(x:Ins):(eIns x)[5]?=some (.sim (x.args.map eOpd) false):=rfl
theorem sIns_7(x:Ins):(eIns x)[6]?=some (.str x.name):=rfl
theorem sIns_8(x:Ins):(eIns x)[7]?=some (.int .i64 x.off):=rfl
theorem sIns_9(x:Ins):(eIns x)[8]?=some (.sim (x.labels.map eStr) false):=rfl
theorem sIns_10(x:Ins):(eIns x)[9]?=some (.sim (x.cases.map eInt) false):=rfl
theorem sIns_11(x:Ins):ipart true 10 0 (eIns x)=some (.agg (eIns x)):=rfl
theorem sIns_12(x:Ins):ipart true 4 1 (eIns x)=some (.agg (eOpd x.dst)):=rfl
theorem sIns_13(x:Ins):(∀v∈eIns x,v.one=true)=True:=eq_true fun v h=>(cl_eIns x v h).2
theorem sIns_14(x:Ins): ∀o cs,splice (eIns x) o cs=splice [.int .i64 x.op,.int .i64 x.dst.kind,.int .i64 x.dst.cls,.int .i64 x.dst.n,.int .i64 x.dst.tag,.sim (x.args.map eOpd) false,.str x.name,.int .i64 x.off,.sim (x.labels.map eStr) false,.sim (x.cases.map eInt) false] o cs:=fun _ _=>rfl
def sIns(x:Ins):=And.intro (sIns_0 x) (And.intro (sIns_1 x) (And.intro (sIns_2 x) (And.intro (sIns_3 x) (And.intro (sIns_4 x) (And.intro (sIns_5 x) (And.intro (sIns_6 x) (And.intro (sIns_7 x) (And.intro (sIns_8 x) (And.intro (sIns_9 x) (And.intro (sIns_10 x) (And.intro (sIns_11 x) (And.intro (sIns_12 x) (And.intro (sIns_13 x) (sIns_14 x))))))))))))))
def wIns(x:Ins):Prop:=(Lit.int .i64 x.op).wf=true∧wOpd x.dst∧(∀y∈x.args,wOpd y)∧(Lit.int .i64 x.off).wf=true∧(∀y∈x.cases,(Lit.int .i64 y).wf=true)
def eBl(x:Bl):List IV:=[.str x.label,.bool x.edge,.sim (x.ins.map eOpd) false,.sim (x.code.map eIns) false]
theorem kw(x:Bl):Cl1 (eBl x):=(zX (zy _) rfl (zX (zQ _) rfl (zX (zh kM _) rfl (zX (zh cl_eIns _) rfl yp))))
theorem sBl_0(x:Bl):(eBl x).length=4:=rfl
theorem sBl_1(x:Bl):(eBl x)[0]?=some (.str x.label):=rfl
theorem sBl_2(x:Bl):(eBl x)[1]?=some (.bool x.edge):=rfl
theorem sBl_3(x:Bl):(eBl x)[2]?=some (.sim (x.ins.map eOpd) false):=rfl
theorem sBl_4(x:Bl):(eBl x)[3]?=some (.sim (x.code.map eIns) false):=rfl
theorem sBl_5(x:Bl):ipart true 4 0 (eBl x)=some (.agg (eBl x)):=rfl
theorem sBl_6(x:Bl):(∀v∈eBl x,v.one=true)=True:=eq_true fun v h=>(kw x v h).2
theorem sBl_7(x:Bl): ∀o cs,splice (eBl x) o cs=splice [.str x.label,.bool x.edge,.sim (x.ins.map eOpd) false,.sim (x.code.map eIns) false] o cs:=fun _ _=>rfl
def sBl(x:Bl):=And.intro (sBl_0 x) (And.intro (sBl_1 x) (And.intro (sBl_2 x) (And.intro (sBl_3 x) (And.intro (sBl_4 x) (And.intro (sBl_5 x) (And.intro (sBl_6 x) (sBl_7 x)))))))
def wBl(x:Bl):Prop:=(∀y∈x.ins,wOpd y)∧(∀y∈x.code,wIns y)
def eFnc(x:Fnc):List IV:=[.bool x.machine,.str x.name,.sim (x.regs.map eRg) false,.sim (x.params.map eOpd) false,.sim (x.blocks.map eBl) false]
theorem yh(x:Fnc):Cl1 (eFnc x):=(zX (zQ _) rfl (zX (zy _) rfl (zX (zh zzs _) rfl (zX (zh kM _) rfl (zX (zh kw _) rfl yp)))))
theorem sFnc_0(x:Fnc):(eFnc x).length=5:=rfl
theorem sFnc_1(x:Fnc):(eFnc x)[0]?=some (.bool x.machine):=rfl
theorem sFnc_2(x:Fnc):(eFnc x)[1]?=some (.str x.name):=rfl
theorem sFnc_3(x:Fnc):(eFnc x)[2]?=some (.sim (x.regs.map eRg) false):=rfl
theorem sFnc_4(x:Fnc):(eFnc x)[3]?=some (.sim (x.params.map eOpd) false):=rfl
theorem sFnc_5(x:Fnc):(eFnc x)[4]?=some (.sim (x.blocks.map eBl) false):=rfl
theorem sFnc_6(x:Fnc):ipart true 5 0 (eFnc x)=some (.agg (eFnc x)):=rfl
theorem sFnc_7(x:Fnc):(∀v∈eFnc x,v.one=true)=True:=eq_true fun v h=>(yh x v h).2
theorem sFnc_8(x:Fnc): ∀o cs,splice (eFnc x) o cs=splice [.bool x.machine,.str x.name,.sim (x.regs.map eRg) false,.sim (x.params.map eOpd) false,.sim (x.blocks.map eBl) false] o cs:=fun _ _=>rfl
def sFnc(x:Fnc):=And.intro (sFnc_0 x) (And.intro (sFnc_1 x) (And.intro (sFnc_2 x) (And.intro (sFnc_3 x) (And.intro (sFnc_4 x) (And.intro (sFnc_5 x) (And.intro (sFnc_6 x) (And.intro (sFnc_7 x) (sFnc_8 x))))))))
def wFnc(x:Fnc):Prop:=(∀y∈x.regs,wRg y)∧(∀y∈x.params,wOpd y)∧(∀y∈x.blocks,wBl y)
def zI(x:zD):List IV:=[.int .i64 x.n,.sim (x.words.map (eI .u64)) false]
theorem yM(x:zD):Cl1 (zI x):=(zX (zF _ _) rfl (zX (zh (cl_eI .u64) _) rfl yp))
theorem sbits_Set_0(x:zD):(zI x).length=2:=rfl
theorem sbits_Set_1(x:zD):(zI x)[0]?=some (.int .i64 x.n):=rfl
theorem sbits_Set_2(x:zD):(zI x)[1]?=some (.sim (x.words.map (eI .u64)) false):=rfl
theorem sbits_Set_3(x:zD):ipart true 2 0 (zI x)=some (.agg (zI x)):=rfl
theorem sbits_Set_4(x:zD):(∀v∈zI x,v.one=true)=True:=eq_true fun v h=>(yM x v h).2
theorem sbits_Set_5(x:zD): ∀o cs,splice (zI x) o cs=splice [.int .i64 x.n,.sim (x.words.map (eI .u64)) false] o cs:=fun _ _=>rfl
def yq(x:zD):=And.intro (sbits_Set_0 x) (And.intro (sbits_Set_1 x) (And.intro (sbits_Set_2 x) (And.intro (sbits_Set_3 x) (And.intro (sbits_Set_4 x) (sbits_Set_5 x)))))
def zH(x:zE):List IV:=[.bool x.f.machine,.str x.f.name,.sim (x.f.regs.map eRg) false,.sim (x.f.params.map eOpd) false,.sim (x.f.blocks.map eBl) false,.sim (x.ids.map eInt) false,.sim (x.in_.map (eP zI)) false]
theorem yI(x:zE):Cl1 (zH x):=(zX (zQ _) rfl (zX (zy _) rfl (zX (zh zzs _) rfl (zX (zh kM _) rfl (zX (zh kw _) rfl (zX (zh zl _) rfl (zX (zh (cl_eP yM) _) rfl yp)))))))
theorem sassign_Known_0(x:zE):(zH x).length=7:=rfl
theorem sassign_Known_1(x:zE):(zH x)[0]?=some (.bool x.f.machine):=rfl
theorem sassign_Known_2(x:zE):(zH x)[1]?=some (.str x.f.name):=rfl
theorem sassign_Known_3(x:zE):(zH x)[2]?=some (.sim (x.f.regs.map eRg) false):=rfl
theorem sassign_Known_4(x:zE):(zH x)[3]?=some (.sim (x.f.params.map eOpd) false):=rfl
theorem sassign_Known_5(x:zE):(zH x)[4]?=some (.sim (x.f.blocks.map eBl) false):=rfl
theorem sassign_Known_6(x:zE):(zH x)[5]?=some (.sim (x.ids.map eInt) false):=rfl
theorem sassign_Known_7(x:zE):(zH x)[6]?=some (.sim (x.in_.map (eP zI)) false):=rfl
theorem sassign_Known_8(x:zE):ipart true 7 0 (zH x)=some (.agg (zH x)):=rfl
theorem sassign_Known_9(x:zE):ipart true 5 0 (zH x)=some (.agg (eFnc x.f)):=rfl
theorem sassign_Known_10(x:zE):(∀v∈zH x,v.one=true)=True:=eq_true fun v h=>(yI x v h).2
theorem sassign_Known_11(x:zE): ∀o cs,splice (zH x) o cs=splice [.bool x.f.machine,.str x.f.name,.sim (x.f.regs.map eRg) false,.sim (x.f.params.map eOpd) false,.sim (x.f.blocks.map eBl) false,.sim (x.ids.map eInt) false,.sim (x.in_.map (eP zI)) false] o cs:=fun _ _=>rfl
def zx(x:zE):=And.intro (sassign_Known_0 x) (And.intro (sassign_Known_1 x) (And.intro (sassign_Known_2 x) (And.intro (sassign_Known_3 x) (And.intro (sassign_Known_4 x) (And.intro (sassign_Known_5 x) (And.intro (sassign_Known_6 x) (And.intro (sassign_Known_7 x) (And.intro (sassign_Known_8 x) (And.intro (sassign_Known_9 x) (And.intro (sassign_Known_10 x) (sassign_Known_11 x)))))))))))
def zP(x:zU):List IV:=[.sim (x.succ.map (eS eInt)) false,.sim (x.pred.map (eS eInt)) false]
theorem yn(x:zU):Cl1 (zP x):=(zX (zh (cl_eS zl) _) rfl (zX (zh (cl_eS zl) _) rfl yp))
theorem sgraph_Graph_0(x:zU):(zP x).length=2:=rfl
theorem sgraph_Graph_1(x:zU):(zP x)[0]?=some (.sim (x.succ.map (eS eInt)) false):=rfl
theorem sgraph_Graph_2(x:zU):(zP x)[1]?=some (.sim (x.pred.map (eS eInt)) false):=rfl
theorem sgraph_Graph_3(x:zU):ipart true 2 0 (zP x)=some (.agg (zP x)):=rfl
theorem sgraph_Graph_4(x:zU):(∀v∈zP x,v.one=true)=True:=eq_true fun v h=>(yn x v h).2
theorem sgraph_Graph_5(x:zU): ∀o cs,splice (zP x) o cs=splice [.sim (x.succ.map (eS eInt)) false,.sim (x.pred.map (eS eInt)) false] o cs:=fun _ _=>rfl
def yy(x:zU):=And.intro (sgraph_Graph_0 x) (And.intro (sgraph_Graph_1 x) (And.intro (sgraph_Graph_2 x) (And.intro (sgraph_Graph_3 x) (And.intro (sgraph_Graph_4 x) (sgraph_Graph_5 x)))))
theorem sA90_0(x:A2 Int):(eA2 eInt x).length=2:=rfl
theorem sA90_1(x:A2 Int):(eA2 eInt x)[0]?=some (.int .i64 x.a0):=rfl
theorem sA90_2(x:A2 Int):(eA2 eInt x)[1]?=some (.int .i64 x.a1):=rfl
theorem sA90_3(x:A2 Int):ipart true 2 0 (eA2 eInt x)=some (.agg (eA2 eInt x)):=rfl
theorem sA90_4(x:A2 Int):(∀v∈eA2 eInt x,v.one=true)=True:=eq_true fun v h=>((cl_eA2 zl) x v h).2
theorem sA90_5(x:A2 Int): ∀o cs,splice (eA2 eInt x) o cs=splice [.int .i64 x.a0,.int .i64 x.a1] o cs:=fun _ _=>rfl
def sA90(x:A2 Int):=And.intro (sA90_0 x) (And.intro (sA90_1 x) (And.intro (sA90_2 x) (And.intro (sA90_3 x) (And.intro (sA90_4 x) (sA90_5 x)))))
theorem sA139_0(x:A2 (List (List Int))):(eA2 (eS (eS eInt)) x).length=2:=rfl
theorem sA139_1(x:A2 (List (List Int))):(eA2 (eS (eS eInt)) x)[0]?=some (.sim (x.a0.map (eS eInt)) false):=rfl
theorem sA139_2(x:A2 (List (List Int))):(eA2 (eS (eS eInt)) x)[1]?=some (.sim (x.a1.map (eS eInt)) false):=rfl
theorem sA139_3(x:A2 (List (List Int))):ipart true 2 0 (eA2 (eS (eS eInt)) x)=some (.agg (eA2 (eS (eS eInt)) x)):=rfl
theorem sA139_4(x:A2 (List (List Int))):(∀v∈eA2 (eS (eS eInt)) x,v.one=true)=True:=eq_true fun v h=>((cl_eA2 (cl_eS (cl_eS zl))) x v h).2
theorem sA139_5(x:A2 (List (List Int))): ∀o cs,splice (eA2 (eS (eS eInt)) x) o cs=splice [.sim (x.a0.map (eS eInt)) false,.sim (x.a1.map (eS eInt)) false] o cs:=fun _ _=>rfl
def sA139(x:A2 (List (List Int))):=And.intro (sA139_0 x) (And.intro (sA139_1 x) (And.intro (sA139_2 x) (And.intro (sA139_3 x) (And.intro (sA139_4 x) (sA139_5 x)))))
end Go.Proofs.YtjjdblcinoikeaaDoor.IL
