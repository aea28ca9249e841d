/- Functions of the program as pure ones. Printed by tq.py. -/
import Derived.Test.YtjjdblcinoikeaaDoorPD
import Derived.Test.YtjjdblcinoikeaaDoorPM
set_option linter.unusedVariables false
namespace Go.Proofs.YtjjdblcinoikeaaDoor.PL
open Go
def pz0(fuel:Nat)(d_1:Drf)(i1:Int)(nv_1:Int):Option Int:=
 (idx d_1.blocks i1).bind fun x1=>
 some (IntKind.wrap .i64 ((IntKind.wrap .i64 (nv_1+1))+(x1.code.length:Int)))
def pz1(fuel:Nat)(d_1:Drf):Option Bool:=
 (toN 0 (d_1.blocks.length:Int) (fun i s=>pz0 fuel d_1 i s) 0).bind fun nv_2=>
 some ((decide (9<(d_1.blocks.length:Int)))||(decide (60<nv_2)))
def pz2(fuel:Nat)(nv_1:Int):Option Opd:=
 some (⟨1,0,nv_1,0⟩:Opd)
def pz3(fuel:Nat)(x:Nat)(a0_:Int):Option Opd:=
 if x=17 then pz2 fuel a0_ else none
def pz4(fuel:Nat)(nv_1:Int)(p_1:Nat):Option Ins:=
 (pz3 fuel p_1 nv_1).bind fun r1=>
 some (⟨16,r1,([(⟨4,0,0,0⟩:Opd)]:List Opd),(⟨#[]⟩:ByteArray),0,[],[]⟩:Ins)
def pz5(fuel:Nat)(l_1:List ByteArray)(p_1:Nat):Option Ins:=
 (pz3 fuel p_1 1).bind fun r1=>
 some (⟨21,(⟨0,0,0,0⟩:Opd),([r1]:List Opd),(⟨#[]⟩:ByteArray),0,l_1,[]⟩:Ins)
def pz6(fuel:Nat)(l:List Int):Option (List Int):=if l.length≤4294967296 then some (isort l) else none
def pz7(fuel:Nat)(l:List Int):Option (List Int):=if l.length≤4294967296 then some (Lib.compact l) else none
def pz8(fuel:Nat)(s_1:zD)(i_1:Int):Option Bool:=
 some ((decide (0≤i_1))&&(decide (i_1<s_1.n)))
def pz9(fuel:Nat)(s_1:zD)(i_1:Int):Option Bool:=
 (pz8 fuel s_1 i_1).bind fun r1=>
 (if r1=true then(idx s_1.words (IntKind.wrap .i64 (Int.tdiv i_1 64))).bind fun x1=>
 (shr .u64 x1 (Int.tmod i_1 64)).bind fun x2=>
 some (decide ((band .u64 x2 1)=1)) else some false).bind fun b1=>
 some b1
def pza(fuel:Nat)(nv_1:Int):Option zD:=
 (mk (IntKind.wrap .i64 (Int.tdiv (IntKind.wrap .i64 ((IntKind.wrap .i64 ((if 0>nv_1 then 0 else nv_1)+64))-1)) 64)) (0:Int)).bind fun l1=>
 some (⟨(if 0>nv_1 then 0 else nv_1),l1⟩:zD)
def pzb(fuel:Nat)(s_1:zD)(i_1:Int):Option (Bool×zD):=
 (pz8 fuel s_1 i_1).bind fun r1=>
 (if(!r1)=true then some true else(pz9 fuel s_1 i_1).bind fun r2=>
 some r2).bind fun b1=>
 if b1=true then
  some (false,s_1)
 else
  (idx s_1.words (IntKind.wrap .i64 (Int.tdiv i_1 64))).bind fun x1=>
  (shl .u64 1 (Int.tmod i_1 64)).bind fun x2=>
  (setI s_1.words (IntKind.wrap .i64 (Int.tdiv i_1 64)) (bor .u64 x1 x2)).bind fun l1=>
  some (true,(⟨s_1.n,l1⟩:zD))
def pzc(fuel:Nat)(x_1:Int):Option Bool:=
 some (decide (x_1≠x_1))
def pzd(fuel:Nat)(x_1:Int)(y_1:Int):Option Bool:=
 (pzc fuel x_1).bind fun r1=>
 (if r1=true then(pzc fuel y_1).bind fun r2=>
 some (!r2) else some false).bind fun b1=>
 some (b1||(decide (x_1<y_1)))
def pze(fuel:Nat)(x_1:Int):Option Bool:=
 some (decide (x_1≠x_1))
def pzf(fuel:Nat)(x_1:List Int)(target_1:Int)(i_1:Int)(j_1:Int):Option (Ex (Int×Int) (Int×Bool)):=
 if decide (i_1<j_1)=true then
  (shr .u64 (IntKind.wrap .u64 (IntKind.wrap .i64 (i_1+j_1))) 1).bind fun x1=>
  (idx x_1 (IntKind.wrap .i64 x1)).bind fun x2=>
  (pzd fuel x2 target_1).bind fun r1=>
  if r1=true then
   some (.n (IntKind.wrap .i64 ((IntKind.wrap .i64 x1)+1),j_1))
  else
   some (.n (i_1,IntKind.wrap .i64 x1))
 else
  some (.b (i_1,j_1))
def pzg(fuel:Nat)(x_1:List Int)(target_1:Int):Option (Int×Bool):=
 bindE (loopE fuel (fun s=>pzf fuel x_1 target_1 s.1 s.2) (0,(x_1.length:Int))) (fun(i_2,j_2)=>
 (if(decide (i_2<(x_1.length:Int)))=true then(idx x_1 i_2).bind fun x3=>
 (if(decide (x3=target_1))=true then some true else(pze fuel x3).bind fun r2=>
 (if r2=true then(pze fuel target_1).bind fun r3=>
 some r3 else some false).bind fun b1=>
 some b1).bind fun b2=>
 some b2 else some false).bind fun b3=>
 some (i_2,b3)) some
def pzh(fuel:Nat)(k_1:zG)(v_1:Int):Option Int:=
 (pzg fuel k_1.ids v_1).bind fun(r1,r2)=>
 if(!r2)=true then
  some (-1)
 else
  some r1
def pzi(fuel:Nat)(r1:zD)(x_1:Int)(s_1:zD):Option (Ex (Int×zD) zD):=
 if decide (x_1<r1.n)=true then
  (pzb fuel s_1 x_1).bind fun(r2,m2)=>
  some (.n (IntKind.wrap .i64 (x_1+1),m2))
 else
  some (.b (x_1,s_1))
def pzj(fuel:Nat)(nv_1:Int):Option zD:=
 (pza fuel nv_1).bind fun r1=>
 bindE (loopE fuel (fun s=>pzi fuel r1 s.1 s.2) (0,r1)) (fun(x_2,s_2)=>
 some s_2) some
def pzk(fuel:Nat)(op_1:Int):Option Bool:=
 some ((decide (20≤op_1))&&(decide (op_1≤23)))
def pzl(fuel:Nat)(b_1:Bl):Option (Ins×Bool):=
 if decide ((b_1.code.length:Int)=0)=true then
  some ((⟨0,(⟨0,0,0,0⟩:Opd),[],(⟨#[]⟩:ByteArray),0,[],[]⟩:Ins),false)
 else
  (idx b_1.code (IntKind.wrap .i64 ((b_1.code.length:Int)-1))).bind fun x1=>
  (pzk fuel x1.op).bind fun r1=>
  some (x1,r1)
def pzm(fuel:Nat)(b_1:Bl)(p_1:ByteArray):Option Bool:=
 some (decide (b_1.label=p_1))
def pzn(fuel:Nat)(s_1:List Bl)(w1:ByteArray)(x_1:Int):Option (Ex Int Int):=
 if decide (x_1<(s_1.length:Int))=true then
  (idx s_1 x_1).bind fun x1=>
  (pzm fuel x1 w1).bind fun r1=>
  if r1=true then
   some (.r (x_1))
  else
   some (.n (IntKind.wrap .i64 (x_1+1)))
 else
  some (.b x_1)
def pzo(fuel:Nat)(s_1:List Bl)(w1:ByteArray):Option Int:=
 bindE (loopE fuel (fun s=>pzn fuel s_1 w1 s) 0) (fun x_2=>
 some (-1)) some
def pzp(fuel:Nat)(f_1:Fnc)(label_1:ByteArray):Option Int:=
 (pzo fuel f_1.blocks label_1).bind fun r1=>
 some r1
def pzq(fuel:Nat)(s_1:List Int)(v_1:Int)(x_1:Int):Option (Ex Int Int):=
 if decide (x_1<(s_1.length:Int))=true then
  (idx s_1 x_1).bind fun x1=>
  if decide (v_1=x1)=true then
   some (.r (x_1))
  else
   some (.n (IntKind.wrap .i64 (x_1+1)))
 else
  some (.b x_1)
def pzr(fuel:Nat)(s_1:List Int)(v_1:Int):Option Int:=
 bindE (loopE fuel (fun s=>pzq fuel s_1 v_1 s) 0) (fun x_2=>
 some (-1)) some
def pzs(fuel:Nat)(s_1:List Int)(v_1:Int):Option Bool:=
 (pzr fuel s_1 v_1).bind fun r1=>
 some (decide (0≤r1))
def pzt(fuel:Nat)(f_1:Fnc)(x_1:Int)(r1:Ins)(c7:List (List Int))(c8:List (List Int))(x_3:Int):Option (Ex ((List (List Int))×(List (List Int))×Int) ((List (List Int))×(List (List Int)))):=
 if decide (x_3<(r1.labels.length:Int))=true then
  ((idx r1.labels x_3).bind fun x2=>
  (pzp fuel f_1 x2).bind fun r3=>
  (if(decide (0≤r3))=true then(idx c7 x_1).bind fun x3=>
  (pzs fuel x3 r3).bind fun r5=>
  some (!r5) else some false).bind fun b1=>
  if b1=true then
   (idx c7 x_1).bind fun x4=>
   (app x4 ([r3]:List Int)).bind fun l3=>
   (setI c7 x_1 l3).bind fun l4=>
   (idx c8 r3).bind fun x5=>
   (app x5 ([x_1]:List Int)).bind fun l5=>
   (setI c8 r3 l5).bind fun l6=>
   some (l4,l6)
  else
   some (c7,c8):Option ((List (List Int))×(List (List Int)))).bind fun(c11,c12)=>
  some (.n (c11,c12,IntKind.wrap .i64 (x_3+1)))
 else
  some (.b (c7,c8,x_3))
def pzu(fuel:Nat)(f_1:Fnc)(x_1:Int)(c1:List (List Int))(c2:List (List Int)):Option (Ex (Int×(List (List Int))×(List (List Int))) zV):=
 if decide (x_1<(f_1.blocks.length:Int))=true then
  ((idx f_1.blocks x_1).bind fun x1=>
  (pzl fuel x1).bind fun(r1,r2)=>
  if(!r2)=true then
   some (c1,c2)
  else
   bindE (loopE fuel (fun s=>pzt fuel f_1 x_1 r1 s.1 s.2.1 s.2.2) (c1,c2,0)) (fun(c9,c10,x_4)=>
   some (c9,c10)) some:Option ((List (List Int))×(List (List Int)))).bind fun(c5,c6)=>
  some (.n (IntKind.wrap .i64 (x_1+1),c5,c6))
 else
  some (.b (x_1,c1,c2))
def pzv(fuel:Nat)(f_1:Fnc):Option zV:=
 (mk (f_1.blocks.length:Int) ([]:List Int)).bind fun l1=>
 (mk (f_1.blocks.length:Int) ([]:List Int)).bind fun l2=>
 bindE (loopE fuel (fun s=>pzu fuel f_1 s.1 s.2.1 s.2.2) (0,l1,l2)) (fun(x_2,c3,c4)=>
 some (⟨c3,c4⟩:zV)) some
def pzw(fuel:Nat)(g_1:zV):Option Int:=
 some (g_1.succ.length:Int)
def pzx(fuel:Nat)(i_1:Int)(p_1:zD)(p_2:List (A2 Int)):Option (zD×(List (A2 Int))):=
 (pzb fuel p_1 i_1).bind fun(r1,m1)=>
 if r1=true then
  (app p_2 ([(⟨i_1,0⟩:A2 Int)]:List (A2 Int))).bind fun l1=>
  some (m1,l1)
 else
  some (m1,p_2)
def pzy(fuel:Nat)(g_1:zV)(out_1:List Int)(steps_1:List (A2 Int))(c1:zD):Option (Ex ((List Int)×(List (A2 Int))×zD) ((List Int))):=
 if decide (0<(steps_1.length:Int))=true then
  (idx steps_1 (IntKind.wrap .i64 ((steps_1.length:Int)-1))).bind fun x1=>
  (idx g_1.succ x1.a0).bind fun x2=>
  if decide (x1.a1=(x2.length:Int))=true then
   (sli steps_1 0 (IntKind.wrap .i64 ((steps_1.length:Int)-1))).bind fun l1=>
   (app out_1 ([x1.a0]:List Int)).bind fun l2=>
   some (.n (l2,l1,c1))
  else
   (setI steps_1 (IntKind.wrap .i64 ((steps_1.length:Int)-1)) (⟨x1.a0,IntKind.wrap .i64 (x1.a1+1)⟩:A2 Int)).bind fun l3=>
   (idx x2 x1.a1).bind fun x3=>
   (pzx fuel x3 c1 l3).bind fun(m4,m5)=>
   some (.n (out_1,m5,m4))
 else
  some (.b (out_1,steps_1,c1))
def pzz(fuel:Nat)(g_1:zV):Option ((List Int)):=
 (pzw fuel g_1).bind fun r1=>
 (pza fuel r1).bind fun r2=>
 (pzx fuel 0 r2 ([]:List (A2 Int))).bind fun(m1,m2)=>
 bindE (loopE fuel (fun s=>pzy fuel g_1 s.1 s.2.1 s.2.2) (([]:List Int),m2,m1)) (fun(out_2,steps_2,c2)=>
 some out_2) some
def pz10(fuel:Nat)(s_2:List Int)(i_1:Int)(j_1:Int):Option (Ex ((List Int)×Int×Int) ((List Int))):=
 if decide (i_1<j_1)=true then
  (idx s_2 j_1).bind fun x1=>
  (idx s_2 i_1).bind fun x2=>
  (setI s_2 i_1 x1).bind fun l1=>
  (idx l1 j_1).bind fun x3=>
  (setI l1 j_1 x2).bind fun l2=>
  some (.n (l2,IntKind.wrap .i64 (i_1+1),IntKind.wrap .i64 (j_1-1)))
 else
  some (.b (s_2,i_1,j_1))
def pz11(fuel:Nat)(s_1:List Int):Option ((List Int)):=
 bindE (loopE fuel (fun s=>pz10 fuel s.1 s.2.1 s.2.2) (s_1,0,IntKind.wrap .i64 ((s_1.length:Int)-1))) (fun(s_3,i_2,j_2)=>
 some s_3) some
def pz12(fuel:Nat)(s:List Int):Option (List Int):=app [] s
def pz13(fuel:Nat)(o_1:Opd):Option (Int×Bool):=
 bindE (
  if decide (o_1.kind=1)=true then
   some (.r ((o_1.n,true)))
  else
   (if decide (o_1.kind=2)=true then
    some (decide (o_1.kind=2))
   else
    some (decide (o_1.kind=3)):Option Bool).bind fun x_1=>
   if x_1=true then
    some (.r ((o_1.tag,true)))
   else
    some (.n ())) (fun _=>
 some (0,false)) some
def pz14(fuel:Nat)(i_1:Ins):Option (Int×Bool):=
 (pz13 fuel i_1.dst).bind fun(r1,r2)=>
 some (r1,r2)
def pz15(fuel:Nat)(s_1:zD):Option zD:=
 (pz12 fuel s_1.words).bind fun r1=>
 some (⟨s_1.n,r1⟩:zD)
def pz16(fuel:Nat)(k_1:zG)(s_1:zD)(i_1:Ins):Option zD:=
 (pz14 fuel i_1).bind fun(r1,r2)=>
 if(r2&&(decide (i_1.dst.kind=1)))=true then
  (pzh fuel k_1 r1).bind fun r3=>
  (pzb fuel s_1 r3).bind fun(r4,m1)=>
  some m1
 else
  some s_1
def pz17(fuel:Nat)(k_1:zG)(l1:List Ins)(x_1:Int)(s_1:zD):Option (Ex (Int×zD) zD):=
 if decide (x_1<(l1.length:Int))=true then
  (idx l1 x_1).bind fun x3=>
  (pz16 fuel k_1 s_1 x3).bind fun m2=>
  some (.n (IntKind.wrap .i64 (x_1+1),m2))
 else
  some (.b (x_1,s_1))
def pz18(fuel:Nat)(k_1:zG)(b_1:Int)(nv_1:Int):Option zD:=
 (idx k_1.in_ b_1).bind fun x1=>
 (pz15 fuel x1).bind fun r1=>
 (idx k_1.f.blocks b_1).bind fun x2=>
 (sli x2.code 0 nv_1).bind fun l1=>
 bindE (loopE fuel (fun s=>pz17 fuel k_1 l1 s.1 s.2) (0,r1)) (fun(x_2,s_2)=>
 some s_2) some
def pz19(fuel:Nat)(s:List Int):Option (List Int):=app [] s
def pz1a(fuel:Nat)(g_1:zV)(i_1:Int)(which_1:Int):Option ((List Int)):=
 (if(decide (i_1<0))=true then some true else(pzw fuel g_1).bind fun r1=>
 some (decide (r1≤i_1))).bind fun b1=>
 if b1=true then
  some ([]:List Int)
 else
  (ix2 which_1).bind fun c1=>
  (idx ((⟨g_1.succ,g_1.pred⟩:A2 (List (List Int))).at c1) i_1).bind fun x1=>
  (pz19 fuel x1).bind fun r2=>
  some r2
def pz1b(fuel:Nat)(g_1:zV)(i_1:Int):Option ((List Int)):=
 (pz1a fuel g_1 i_1 0).bind fun r1=>
 some r1
def pz1c(fuel:Nat)(av_1:Int)(b_1:Int):Option Int:=
 some (band .u64 av_1 b_1)
def pz1d(fuel:Nat)(s_1:zD)(k_1:Int):Option Int:=
 if decide ((IntKind.wrap .i64 (s_1.n-(IntKind.wrap .i64 (k_1*64))))<64)=true then
  (shl .u64 1 (IntKind.wrap .i64 (s_1.n-(IntKind.wrap .i64 (k_1*64))))).bind fun x1=>
  some (IntKind.wrap .u64 (x1-1))
 else
  some 18446744073709551615
def pz1e(fuel:Nat)(k_1:zG)(l1:List Ins)(x_1:Int)(s_1:zD):Option (Ex (Int×zD) zD):=
 if decide (x_1<(l1.length:Int))=true then
  (idx l1 x_1).bind fun x3=>
  (pz16 fuel k_1 s_1 x3).bind fun m2=>
  some (.n (IntKind.wrap .i64 (x_1+1),m2))
 else
  some (.b (x_1,s_1))
def pz1f(fuel:Nat)(k_1:zG)(b_1:Int)(nv_1:Int):Option zD:=
 (idx k_1.in_ b_1).bind fun x1=>
 (pz15 fuel x1).bind fun r2=>
 (idx k_1.f.blocks b_1).bind fun x2=>
 (sli x2.code 0 nv_1).bind fun l1=>
 bindE (loopE fuel (fun s=>pz1e fuel k_1 l1 s.1 s.2) (0,r2)) (fun(x_2,s_2)=>
 some s_2) some
def pz1g(fuel:Nat)(s_1:zD)(o_1:zD)(c2:List Int)(x_1:Int)(changed_1:Bool):Option (Ex ((List Int)×Int×Bool) (Bool×zD)):=
 if decide (x_1<(s_1.words.length:Int))=true then
  ((idx c2 x_1).bind fun x1=>
  (if decide (x_1<(o_1.words.length:Int))=true then
   (idx o_1.words x_1).bind fun x2=>
   some x2
  else
   some 0:Option Int).bind fun b_1=>
  (pz1c fuel x1 b_1).bind fun r1=>
  (pz1d fuel (⟨s_1.n,c2⟩:zD) x_1).bind fun r2=>
  (setI c2 x_1 (band .u64 r1 r2)).bind fun l1=>
  some (l1,(changed_1||(decide ((band .u64 r1 r2)≠x1)))):Option ((List Int)×Bool)).bind fun(c4,changed_3)=>
  some (.n (c4,IntKind.wrap .i64 (x_1+1),changed_3))
 else
  some (.b (c2,x_1,changed_1))
def pz1h(fuel:Nat)(s_1:zD)(o_1:zD):Option (Bool×zD):=
 bindE (loopE fuel (fun s=>pz1g fuel s_1 o_1 s.1 s.2.1 s.2.2) (s_1.words,0,false)) (fun(c3,x_2,changed_2)=>
 some (changed_2,(⟨s_1.n,c3⟩:zD))) some
def pz1i(fuel:Nat)(s_1:zD)(o_1:zD):Option (Bool×zD):=
 (pz1h fuel s_1 o_1).bind fun(r1,m1)=>
 some (r1,m1)
def pz1j(fuel:Nat)(g_1:zV):Option ((List Int)):=
 (pzw fuel g_1).bind fun r1=>
 if decide (r1=0)=true then
  some ([]:List Int)
 else
  (pzz fuel g_1).bind fun r2=>
  (pz11 fuel r2).bind fun m1=>
  some m1
def pz1k(fuel:Nat)(f_1:Fnc)(x_1:Int)(c1:List Int):Option (Ex (Int×(List Int)) zG):=
 if decide (x_1<(f_1.regs.length:Int))=true then
  (idx f_1.regs x_1).bind fun x1=>
  (app c1 ([x1.id]:List Int)).bind fun l1=>
  some (.n (IntKind.wrap .i64 (x_1+1),l1))
 else
  some (.b (x_1,c1))
def pz1l(fuel:Nat)(f_1:Fnc)(r1:List Int)(c3:List zD)(x_3:Int):Option (Ex ((List zD)×Int) zG):=
 if decide (x_3<(f_1.blocks.length:Int))=true then
  (pzj fuel (r1.length:Int)).bind fun r2=>
  (app c3 [r2]).bind fun l2=>
  some (.n (l2,IntKind.wrap .i64 (x_3+1)))
 else
  some (.b (c3,x_3))
def pz1m(fuel:Nat)(f_1:Fnc)(r1:List Int)(c4:List zD)(first_1:zD)(x_5:Int):Option (Ex (zD×Int) zG):=
 if decide (x_5<(f_1.params.length:Int))=true then
  ((idx f_1.params x_5).bind fun x2=>
  if decide (x2.kind=1)=true then
   (pzh fuel (⟨f_1,r1,c4⟩:zG) x2.n).bind fun r4=>
   (pzb fuel first_1 r4).bind fun(r5,m5)=>
   some m5
  else
   some first_1:Option zD).bind fun first_3=>
  some (.n (first_3,IntKind.wrap .i64 (x_5+1)))
 else
  some (.b (first_1,x_5))
def pz1n(fuel:Nat)(r9:zD)(r10:List Int)(wait_3:List Int)(x_7:Int)(k_3:zG):Option (Ex ((List Int)×Int×zG) (Ex ((List Int)×zG) zG)):=
 if decide (x_7<(r10.length:Int))=true then
  ((idx r10 x_7).bind fun x6=>
  (idx k_3.in_ x6).bind fun x7=>
  (pz1i fuel x7 r9).bind fun(r12,m8)=>
  (if r12=true then(pzs fuel wait_3 x6).bind fun r13=>
  some (!r13) else some false).bind fun b1=>
  (setI k_3.in_ x6 m8).bind fun l5=>
  if b1=true then
   (app wait_3 ([x6]:List Int)).bind fun l6=>
   some (l6,k_3.f.machine,k_3.f.name,k_3.f.regs,k_3.f.params,k_3.f.blocks,k_3.ids,l5)
  else
   some (wait_3,k_3.f.machine,k_3.f.name,k_3.f.regs,k_3.f.params,k_3.f.blocks,k_3.ids,l5):Option ((List Int)×Bool×ByteArray×(List Rg)×(List Opd)×(List Bl)×(List Int)×(List zD))).bind fun(wait_5,c6,c7,c8,c9,c10,c11,c12)=>
  some (.n (wait_5,IntKind.wrap .i64 (x_7+1),(⟨(⟨c6,c7,c8,c9,c10⟩:Fnc),c11,c12⟩:zG)))
 else
  some (.b (wait_3,x_7,k_3))
def pz1o(fuel:Nat)(f_1:Fnc)(r7:zV)(wait_1:List Int)(k_1:zG):Option (Ex ((List Int)×zG) zG):=
 if decide (0<(wait_1.length:Int))=true then
  (idx wait_1 0).bind fun x4=>
  (sli wait_1 1 (wait_1.length:Int)).bind fun l4=>
  (idx f_1.blocks x4).bind fun x5=>
  (pz1f fuel k_1 x4 (x5.code.length:Int)).bind fun r9=>
  (pz1b fuel r7 x4).bind fun r10=>
  bindE (loopE fuel (fun s=>pz1n fuel r9 r10 s.1 s.2.1 s.2.2) (l4,0,k_1)) (fun(wait_4,x_8,k_4)=>
  some (.n (wait_4,k_4))) some
 else
  some (.b (wait_1,k_1))
def pz1p(fuel:Nat)(f_1:Fnc):Option zG:=
 bindE (loopE fuel (fun s=>pz1k fuel f_1 s.1 s.2) (0,([]:List Int))) (fun(x_2,c2)=>
 (pz6 fuel c2).bind fun m2=>
 (pz7 fuel m2).bind fun r1=>
 bindE (loopE fuel (fun s=>pz1l fuel f_1 r1 s.1 s.2) (([]:List zD),0)) (fun(c4,x_4)=>
 if decide ((f_1.blocks.length:Int)=0)=true then
  some (⟨f_1,r1,c4⟩:zG)
 else
  (pza fuel (r1.length:Int)).bind fun r3=>
  bindE (loopE fuel (fun s=>pz1m fuel f_1 r1 c4 s.1 s.2) (r3,0)) (fun(first_2,x_6)=>
  (idx c4 0).bind fun x3=>
  (setI c4 0 first_2).bind fun l3=>
  (pzv fuel f_1).bind fun r7=>
  (pz1j fuel r7).bind fun r8=>
  bindE (loopE fuel (fun s=>pz1o fuel f_1 r7 s.1 s.2) (r8,(⟨f_1,r1,l3⟩:zG))) (fun(wait_2,k_2)=>
  some k_2) some) some) some) some
def pz1q(fuel:Nat)(k_1:zG)(x_1:Int)(x_3:Int)(s_1:zD)(x3:Ins)(x_5:Int):Option (Ex Int (Ex (Int×zD) (Ex Int (Int×Int×Int×Bool)))):=
 if decide (x_5<(x3.args.length:Int))=true then
  (idx x3.args x_5).bind fun x4=>
  (if(decide (x4.kind=1))=true then(pzh fuel k_1 x4.n).bind fun r2=>
  (pz9 fuel s_1 r2).bind fun r3=>
  some (!r3) else some false).bind fun b1=>
  if b1=true then
   some (.r (.r (.r ((x_1,x_3,x4.n,true)))))
  else
   some (.n (IntKind.wrap .i64 (x_5+1)))
 else
  some (.b x_5)
def pz1r(fuel:Nat)(k_1:zG)(x_1:Int)(x2:Bl)(x_3:Int)(s_1:zD):Option (Ex (Int×zD) (Ex Int (Int×Int×Int×Bool))):=
 if decide (x_3<(x2.code.length:Int))=true then
  (idx x2.code x_3).bind fun x3=>
  bindE (loopE fuel (fun s=>pz1q fuel k_1 x_1 x_3 s_1 x3 s) 0) (fun x_6=>
  (pz16 fuel k_1 s_1 x3).bind fun m4=>
  some (.n (IntKind.wrap .i64 (x_3+1),m4))) some
 else
  some (.b (x_3,s_1))
def pz1s(fuel:Nat)(k_1:zG)(x_1:Int):Option (Ex Int (Int×Int×Int×Bool)):=
 if decide (x_1<(k_1.in_.length:Int))=true then
  (idx k_1.in_ x_1).bind fun x1=>
  (pz15 fuel x1).bind fun r1=>
  (idx k_1.f.blocks x_1).bind fun x2=>
  bindE (loopE fuel (fun s=>pz1r fuel k_1 x_1 x2 s.1 s.2) (0,r1)) (fun(x_4,s_2)=>
  some (.n (IntKind.wrap .i64 (x_1+1)))) some
 else
  some (.b x_1)
def pz1t(fuel:Nat)(k_1:zG):Option (Int×Int×Int×Bool):=
 bindE (loopE fuel (fun s=>pz1s fuel k_1 s) 0) (fun x_2=>
 some (0,0,0,false)) some
def pz1u(fuel:Nat)(s_1:zD):Option zD:=
 some s_1
def tab_0:List Int:=[0,1,56,2,57,49,28,3,61,58,42,50,38,29,17,4,62,47,59,36,45,43,51,22,53,39,33,30,24,18,12,5,63,55,48,27,60,41,37,16,46,35,44,21,52,32,23,11,54,26,40,15,34,20,31,10,25,14,19,9,13,8,7,6]
def pz1v(fuel:Nat)(x_1:Int):Option Int:=
 if decide (x_1=0)=true then
  some 64
 else
  (shr .u64 (IntKind.wrap .u64 ((band .u64 x_1 (IntKind.wrap .u64 (0-x_1)))*285870213051353865)) 58).bind fun x1=>
  (idx tab_0 x1).bind fun x2=>
  some (IntKind.wrap .i64 x2)
def pz1w(fuel:Nat){σ:Type}(y:σ→Int→Option (Bool×σ))(x_1:Int)(w_1:Int)(c3:Bool×σ):Option (Ex (Int×(Bool×σ)) (Ex (Int×(Bool×σ)) ((Bool×σ)))):=
 if decide (w_1≠0)=true then
  (pz1v fuel w_1).bind fun r1=>
  (yl y c3 (IntKind.wrap .i64 ((IntKind.wrap .i64 (x_1*64))+r1))).bind fun(r2,m3)=>
  if(!r2)=true then
   some (.r (.r (m3)))
  else
   some (.n (band .u64 w_1 (IntKind.wrap .u64 (w_1-1)),m3))
 else
  some (.b (w_1,c3))
def pz1x(fuel:Nat){σ:Type}(y:σ→Int→Option (Bool×σ))(s_1:zD)(x_1:Int)(c1:Bool×σ):Option (Ex (Int×(Bool×σ)) ((Bool×σ))):=
 if decide (x_1<(s_1.words.length:Int))=true then
  (idx s_1.words x_1).bind fun x1=>
  bindE (loopE fuel (fun s=>pz1w fuel y x_1 s.1 s.2) (x1,c1)) (fun(w_2,c4)=>
  some (.n (IntKind.wrap .i64 (x_1+1),c4))) some
 else
  some (.b (x_1,c1))
def pz1y(fuel:Nat){σ:Type}(y:σ→Int→Option (Bool×σ))(s_1:zD)(w1:Bool×σ):Option ((Bool×σ)):=
 bindE (loopE fuel (fun s=>pz1x fuel y s_1 s.1 s.2) (0,w1)) (fun(x_2,c2)=>
 some c2) some
def bitsW(k w:Nat):List Int:=((List.range 64).filter fun j=>w.testBit j).map fun(j:Nat)=>((64*k+j:Nat):Int)
def bitsL:Nat→List Int→List Int
 |_,[]=>[]
 |k,w::ws=>bitsW k w.toNat++bitsL (k+1) ws
def yk(fuel:Nat)(s:zD):Option (List Int):=
 if s.words.length<4194304∧s.words.length<fuel∧65<fuel∧ ∀w∈s.words,0≤w∧w<18446744073709551616 then some (bitsL 0 s.words) else none
def pz1z(fuel:Nat)(k_1:zG)(o1:Int)(out_1:List Int):Option (Ex ((List Int)) ((List Int))):=
 (idx k_1.ids o1).bind fun x1=>
 (app out_1 ([x1]:List Int)).bind fun l1=>
 some (.n l1)
def pz20(fuel:Nat)(k_1:zG)(s_1:zD):Option ((List Int)):=
 (pz1u fuel s_1).bind fun r1=>
 (yk fuel r1).bind fun xs1=>
 bindX (rangeE (fun s x=>pz1z fuel k_1 x s) ([]:List Int) xs1) (fun out_2=>
  some out_2) (fun _=>none) (fun _=>none)
def pz21(fuel:Nat)(k_1:zG)(b_1:Int)(i_1:Int):Option ((List Int)):=
 (if(((decide (b_1<0))||(decide ((k_1.in_.length:Int)≤b_1)))||(decide (i_1<0)))=true then some true else(idx k_1.f.blocks b_1).bind fun x1=>
 some (decide ((x1.code.length:Int)<i_1))).bind fun b1=>
 if b1=true then
  some ([]:List Int)
 else
  (pz18 fuel k_1 b_1 i_1).bind fun r1=>
  (pz20 fuel k_1 r1).bind fun r2=>
  some r2
def pz22(fuel:Nat)(av_1:List Int)(b_1:List Int)(i1:Int):Option (Ex Unit Bool):=
 (idx av_1 i1).bind fun x1=>
 (idx b_1 i1).bind fun x2=>
 if decide (x1≠x2)=true then
  some (.r (false))
 else
  some (.n ())
def pz23(fuel:Nat)(av_1:List Int)(b_1:List Int):Option Bool:=
 if decide ((av_1.length:Int)≠(b_1.length:Int))=true then
  some false
 else
  bindE (toE 0 (av_1.length:Int) (fun i _=>pz22 fuel av_1 b_1 i) ()) (fun _=>
  some true) some
def pz24(fuel:Nat):Option Bool:=
 (pz3 fuel 17 1).bind fun r1=>
 (pz4 fuel 3 17).bind fun r2=>
 (pz5 fuel ([(⟨#[98]⟩:ByteArray),(⟨#[99]⟩:ByteArray)]:List ByteArray) 17).bind fun r3=>
 (pz4 fuel 2 17).bind fun r4=>
 (pz5 fuel ([(⟨#[99]⟩:ByteArray)]:List ByteArray) 17).bind fun r5=>
 (pz3 fuel 17 2).bind fun r6=>
 (pz1p fuel (⟨false,(⟨#[]⟩:ByteArray),([(⟨1,0⟩:Rg),(⟨2,0⟩:Rg),(⟨3,0⟩:Rg)]:List Rg),([r1]:List Opd),([(⟨(⟨#[97]⟩:ByteArray),false,([]:List Opd),([r2,r3]:List Ins)⟩:Bl),(⟨(⟨#[98]⟩:ByteArray),false,([]:List Opd),([r4,r5]:List Ins)⟩:Bl),(⟨(⟨#[99]⟩:ByteArray),false,([]:List Opd),([(⟨23,(⟨0,0,0,0⟩:Opd),([r6]:List Opd),(⟨#[]⟩:ByteArray),0,([]:List ByteArray),([]:List Int)⟩:Ins)]:List Ins)⟩:Bl)]:List Bl)⟩:Fnc)).bind fun r7=>
 (pz1t fuel r7).bind fun(r8,r9,r10,r11)=>
 (pz21 fuel r7 2 0).bind fun r12=>
 (pz23 fuel r12 ([1,3]:List Int)).bind fun r13=>
 (if r13=true then(pz21 fuel r7 1 1).bind fun r14=>
 (pz23 fuel r14 ([1,2,3]:List Int)).bind fun r15=>
 some r15 else some false).bind fun b1=>
 some ((((b1&&(decide (r8=2)))&&(decide (r9=0)))&&(decide (r10=2)))&&r11)
def pz25(fuel:Nat)(v_1:Int):Option Opd:=
 some (⟨1,0,v_1,0⟩:Opd)
def pz26(fuel:Nat)(nv_1:Int):Option Opd:=
 some (⟨4,0,nv_1,0⟩:Opd)
def pz27(fuel:Nat)(l_1:List Int)(nv_1:Int)(i1:Int):Option (Ex Unit Bool):=
 (idx l_1 i1).bind fun x1=>
 if decide (x1=nv_1)=true then
  some (.r (true))
 else
  some (.n ())
def pz28(fuel:Nat)(l_1:List Int)(nv_1:Int):Option Bool:=
 bindE (toE 0 (l_1.length:Int) (fun i _=>pz27 fuel l_1 nv_1 i) ()) (fun _=>
 some false) some
def pz29(fuel:Nat)(m_1:zF)(classv_1:Int)(k_1:Int):Option Opd:=
 (ix2 classv_1).bind fun c1=>
 (rem (IntKind.wrap .i64 k_1) ((m_1.ids.at c1).length:Int)).bind fun x1=>
 (idx (m_1.ids.at c1) x1).bind fun x2=>
 ((pz28 fuel m_1.has x2).bind fun r1=>
 if(!r1)=true then
  (idx (m_1.ids.at c1) 0).bind fun x3=>
  some x3
 else
  some x2:Option Int).bind fun v_1=>
 (pz25 fuel v_1).bind fun r2=>
 some r2
def pz2a(fuel:Nat)(i_1:Int):Option ByteArray:=
 if decide (i_1=0)=true then
  some (⟨#[101,110,116,114,121]⟩:ByteArray)
 else
  (bsli (⟨#[48,49,50,51,52,53,54,55,56,57]⟩:ByteArray) i_1 (IntKind.wrap .i64 (i_1+1))).bind fun s1=>
  (sadd (⟨#[98]⟩:ByteArray) s1).bind fun s2=>
  some s2
def pz2b(fuel:Nat)(k_1:Int)(nv_1:Int):Option ByteArray:=
 (rem (IntKind.wrap .i64 k_1) (IntKind.wrap .i64 (nv_1-1))).bind fun x1=>
 (pz2a fuel (IntKind.wrap .i64 (1+x1))).bind fun r1=>
 some r1
def pz2c(fuel:Nat)(m_1:zF)(classv_1:Int)(k_1:Int):Option (Opd×zF):=
 (ix2 classv_1).bind fun c2=>
 (rem (IntKind.wrap .i64 k_1) ((m_1.ids.at c2).length:Int)).bind fun x1=>
 (idx (m_1.ids.at c2) x1).bind fun x2=>
 ((pz28 fuel m_1.has x2).bind fun r1=>
 if(!r1)=true then
  (app m_1.has ([x2]:List Int)).bind fun l1=>
  some l1
 else
  some m_1.has:Option ((List Int))).bind fun c3=>
 (pz25 fuel x2).bind fun r2=>
 some (r2,(⟨m_1.f,m_1.ids,c3⟩:zF))
def pz2d(fuel:Nat)(m_1:zF)(d_1:DIns)(i1:Int)(c11:List Opd):Option ((List Opd)):=
 if decide ((Int.tmod (IntKind.wrap .i64 ((IntKind.wrap .i64 d_1.n)+i1)) 3)=0)=true then
  (pz26 fuel (IntKind.wrap .i64 d_1.n)).bind fun r8=>
  (app c11 ([r8]:List Opd)).bind fun l2=>
  some l2
 else
  (pz29 fuel m_1 0 (IntKind.wrap .u8 (d_1.a+(IntKind.wrap .u8 ((IntKind.wrap .u8 i1)*d_1.b))))).bind fun r9=>
  (app c11 ([r9]:List Opd)).bind fun l3=>
  some l3
def pz2e(fuel:Nat)(m_1:zF)(d_1:DIns):Option (Ins×zF):=
 (if decide ((IntKind.wrap .i64 (1+(Int.tmod (IntKind.wrap .i64 d_1.op) 19)))=16)=true then
  (pz26 fuel (IntKind.wrap .i64 d_1.n)).bind fun r1=>
  (if decide (0<(Int.tmod d_1.b 3))=true then
   (pz29 fuel m_1 (IntKind.wrap .i64 ((IntKind.wrap .i64 (Int.tmod d_1.b 3))-1)) d_1.a).bind fun r2=>
   (idx ([r1]:List Opd) 0).bind fun x1=>
   (setI ([r1]:List Opd) 0 r2).bind fun l1=>
   some l1
  else
   some ([r1]:List Opd):Option ((List Opd))).bind fun c10=>
  (pz2c fuel m_1 (Int.tmod (IntKind.wrap .i64 d_1.d) 2) (IntKind.wrap .u8 (Int.tdiv d_1.d 2))).bind fun(r3,m1)=>
  some (r3.kind,r3.cls,r3.n,r3.tag,c10,(⟨#[]⟩:ByteArray),0,m1)
 else
  if decide ((IntKind.wrap .i64 (1+(Int.tmod (IntKind.wrap .i64 d_1.op) 19)))=17)=true then
   (pz29 fuel m_1 1 d_1.a).bind fun r4=>
   (pz2c fuel m_1 0 d_1.d).bind fun(r5,m2)=>
   some (r5.kind,r5.cls,r5.n,r5.tag,([r4]:List Opd),(⟨#[]⟩:ByteArray),Int.tmod (IntKind.wrap .i64 d_1.n) 8,m2)
  else
   if decide ((IntKind.wrap .i64 (1+(Int.tmod (IntKind.wrap .i64 d_1.op) 19)))=18)=true then
    (pz29 fuel m_1 0 d_1.b).bind fun r6=>
    (pz29 fuel m_1 1 d_1.a).bind fun r7=>
    some (0,0,0,0,([r6,r7]:List Opd),(⟨#[]⟩:ByteArray),Int.tmod (IntKind.wrap .i64 d_1.n) 8,m_1)
   else
    if decide ((IntKind.wrap .i64 (1+(Int.tmod (IntKind.wrap .i64 d_1.op) 19)))=19)=true then
     (idx ([(⟨#[102]⟩:ByteArray),(⟨#[103]⟩:ByteArray),(⟨#[112,117,116,10]⟩:ByteArray)]:List ByteArray) (Int.tmod (IntKind.wrap .i64 d_1.a) 3)).bind fun x2=>
     (toN 0 (Int.tmod (IntKind.wrap .i64 d_1.b) 4) (fun i s=>pz2d fuel m_1 d_1 i s) ([]:List Opd)).bind fun c12=>
     if decide (0<(Int.tmod d_1.d 3))=true then
      (pz2c fuel m_1 0 d_1.d).bind fun(r10,m3)=>
      some (r10.kind,r10.cls,r10.n,r10.tag,c12,x2,0,m3)
     else
      some (0,0,0,0,c12,x2,0,m_1)
    else
     (pz29 fuel m_1 0 d_1.a).bind fun r11=>
     (pz26 fuel (IntKind.wrap .i64 d_1.n)).bind fun r12=>
     (if decide (0<(Int.tmod d_1.b 3))=true then
      (pz29 fuel m_1 0 d_1.b).bind fun r13=>
      (idx ([r11,r12]:List Opd) 1).bind fun x3=>
      (setI ([r11,r12]:List Opd) 1 r13).bind fun l4=>
      some l4
     else
      some ([r11,r12]:List Opd):Option ((List Opd))).bind fun c13=>
     (pz2c fuel m_1 0 d_1.d).bind fun(r14,m4)=>
     some (r14.kind,r14.cls,r14.n,r14.tag,c13,(⟨#[]⟩:ByteArray),0,m4):Option (Int×Int×Int×Int×(List Opd)×ByteArray×Int×zF)).bind fun(c2,c3,c4,c5,c6,c7,c8,c9)=>
 some ((⟨IntKind.wrap .i64 (1+(Int.tmod (IntKind.wrap .i64 d_1.op) 19)),(⟨c2,c3,c4,c5⟩:Opd),c6,c7,c8,[],[]⟩:Ins),c9)
def pz2f(fuel:Nat)(m_1:zF)(d_1:DBl)(i_1:Int)(nv_1:Int):Option Ins:=
 (pz29 fuel m_1 0 d_1.v).bind fun r1=>
 if((decide (nv_1=1))||((decide (i_1=(IntKind.wrap .i64 (nv_1-1))))&&(decide ((Int.tmod d_1.term 3)=0))))=true then
  (if decide ((Int.tmod d_1.v 7)=6)=true then
   (pz26 fuel (IntKind.wrap .i64 d_1.v)).bind fun r2=>
   some (r2.kind,r2.cls,r2.n,r2.tag)
  else
   some (r1.kind,r1.cls,r1.n,r1.tag):Option (Int×Int×Int×Int)).bind fun(c2,c3,c4,c5)=>
  some (⟨23,(⟨0,0,0,0⟩:Opd),([(⟨c2,c3,c4,c5⟩:Opd)]:List Opd),(⟨#[]⟩:ByteArray),0,[],[]⟩:Ins)
 else
  (pz2b fuel d_1.a nv_1).bind fun r3=>
  (if decide (i_1<(IntKind.wrap .i64 (nv_1-1)))=true then
   (pz2a fuel (IntKind.wrap .i64 (i_1+1))).bind fun r4=>
   some r4
  else
   some r3:Option ByteArray).bind fun next_1=>
  bindE (
   (if decide ((Int.tmod d_1.term 4)=0)=true then
    some (decide ((Int.tmod d_1.term 4)=0))
   else
    some (decide ((Int.tmod d_1.term 4)=1)):Option Bool).bind fun x_1=>
   if x_1=true then
    if decide ((Int.tmod d_1.term 8)<4)=true then
     (pz2b fuel d_1.b nv_1).bind fun r5=>
     some (.r ((⟨21,(⟨0,0,0,0⟩:Opd),([r1]:List Opd),(⟨#[]⟩:ByteArray),0,([next_1,r5]:List ByteArray),[]⟩:Ins)))
    else
     (pz2b fuel d_1.b nv_1).bind fun r6=>
     some (.r ((⟨21,(⟨0,0,0,0⟩:Opd),([r1]:List Opd),(⟨#[]⟩:ByteArray),0,([r6,next_1]:List ByteArray),[]⟩:Ins)))
   else
    if decide ((Int.tmod d_1.term 4)=2)=true then
     (pz2b fuel d_1.b nv_1).bind fun r7=>
     (if decide ((Int.tmod d_1.v 2)=0)=true then
      (sli ([Int.tmod (IntKind.wrap .i64 d_1.a) 3,5]:List Int) 0 1).bind fun l1=>
      some (([r7,next_1]:List ByteArray),l1)
     else
      some (([r3,r7,next_1]:List ByteArray),([Int.tmod (IntKind.wrap .i64 d_1.a) 3,5]:List Int)):Option ((List ByteArray)×(List Int))).bind fun(c6,c7)=>
     some (.r ((⟨22,(⟨0,0,0,0⟩:Opd),([r1]:List Opd),(⟨#[]⟩:ByteArray),0,c6,c7⟩:Ins)))
    else
     some (.n ())) (fun _=>
  some (⟨20,(⟨0,0,0,0⟩:Opd),[],(⟨#[]⟩:ByteArray),0,([next_1]:List ByteArray),[]⟩:Ins)) some
def pz2g(fuel:Nat)(d_1:Drf)(i1:Int)(c5:List Int)(c6:List Int)(i_1:Int):Option (Ex ((List Int)×(List Int)×Int) ((List Int)×(List Int))):=
 (ix2 i1).bind fun c9=>
 if decide (i_1<((⟨IntKind.wrap .i64 (1+(Int.tmod (IntKind.wrap .i64 d_1.g) 6)),IntKind.wrap .i64 (1+(Int.tmod (IntKind.wrap .i64 d_1.x) 3))⟩:A2 Int).at c9))=true then
  ((ix2 i1).bind fun c12=>
  if c12=true then
   (app c6 ([IntKind.wrap .i64 ((IntKind.wrap .i64 (2*i_1))+i1)]:List Int)).bind fun l2=>
   some (c5,l2)
  else
   (app c5 ([IntKind.wrap .i64 ((IntKind.wrap .i64 (2*i_1))+i1)]:List Int)).bind fun l1=>
   some (l1,c6):Option ((List Int)×(List Int))).bind fun(c10,c11)=>
  some (.n (c10,c11,IntKind.wrap .i64 (i_1+1)))
 else
  some (.b (c5,c6,i_1))
def pz2h(fuel:Nat)(d_1:Drf)(i1:Int)(c1:List Int)(c2:List Int):Option ((List Int)×(List Int)):=
 bindE (loopE fuel (fun s=>pz2g fuel d_1 i1 s.1 s.2.1 s.2.2) (c1,c2,0)) (fun(c7,c8,i_2)=>
 some (c7,c8)) some
def pz2i(fuel:Nat)(d_1:Drf)(i3:Int)(c13:List Rg):Option ((List Rg)):=
 (ix2 (Int.tmod i3 2)).bind fun c15=>
 if decide ((IntKind.wrap .i64 (Int.tdiv i3 2))<((⟨IntKind.wrap .i64 (1+(Int.tmod (IntKind.wrap .i64 d_1.g) 6)),IntKind.wrap .i64 (1+(Int.tmod (IntKind.wrap .i64 d_1.x) 3))⟩:A2 Int).at c15))=true then
  (app c13 ([(⟨i3,Int.tmod i3 2⟩:Rg)]:List Rg)).bind fun l3=>
  some l3
 else
  some c13
def pz2j(fuel:Nat)(d_1:Drf)(c14:List Rg)(i_3:Int)(c16:List Opd)(c17:List Int)(code_1:List Ins):Option (Ex (Int×(List Opd)×(List Int)×(List Ins)) Fnc):=
 if decide (i_3<(c14.length:Int))=true then
  ((idx c14 i_3).bind fun x1=>
  (rem (IntKind.wrap .i64 d_1.params) (IntKind.wrap .i64 ((c14.length:Int)+1))).bind fun x2=>
  if decide (i_3<x2)=true then
   (pz25 fuel x1.id).bind fun r1=>
   (app c16 ([r1]:List Opd)).bind fun l4=>
   (app c17 ([x1.id]:List Int)).bind fun l5=>
   some (l4,l5,code_1)
  else
   if((decide (i_3<2))||(decide ((IntKind.wrap .i64 (i_3+2))<(c14.length:Int))))=true then
    (pz25 fuel x1.id).bind fun r2=>
    (pz26 fuel (IntKind.wrap .i64 (3*x1.id))).bind fun r3=>
    (app code_1 [(⟨16,r2,([r3]:List Opd),(⟨#[]⟩:ByteArray),0,([]:List ByteArray),([]:List Int)⟩:Ins)]).bind fun l6=>
    (app c17 ([x1.id]:List Int)).bind fun l7=>
    some (c16,l7,l6)
   else
    some (c16,c17,code_1):Option ((List Opd)×(List Int)×(List Ins))).bind fun(c20,c21,code_3)=>
  some (.n (IntKind.wrap .i64 (i_3+1),c20,c21,code_3))
 else
  some (.b (i_3,c16,c17,code_1))
def pz2k(fuel:Nat)(c38:List DIns)(i6:Int)(m_1:zF)(code_6:List Ins):Option (zF×(List Ins)):=
 (idx c38 i6).bind fun x4=>
 (pz2e fuel m_1 x4).bind fun(r4,m3)=>
 (app code_6 [r4]).bind fun l10=>
 some (m3,l10)
def pz2l(fuel:Nat)(d_1:Drf)(l8:List Int)(i5:Int)(c22:Bool)(c23:ByteArray)(c24:List Rg)(c25:List Opd)(c26:List Bl)(c27:List Int)(c28:List Int)(c29:List Int)(code_4:List Ins):Option (Bool×ByteArray×(List Rg)×(List Opd)×(List Bl)×(List Int)×(List Int)×(List Int)×(List Ins)):=
 (if decide (i5<(d_1.blocks.length:Int))=true then
  (idx d_1.blocks i5).bind fun x3=>
  some (x3.code,x3.term,x3.a,x3.b,x3.v)
 else
  some (([]:List DIns),0,0,0,0):Option ((List DIns)×Int×Int×Int×Int)).bind fun(c38,c39,c40,c41,c42)=>
 (app ([]:List Int) l8).bind fun l9=>
 (toN 0 (c38.length:Int) (fun i s=>pz2k fuel c38 i s.1 s.2) ((⟨(⟨c22,c23,c24,c25,c26⟩:Fnc),(⟨c27,c28⟩:A2 (List Int)),l9⟩:zF),code_4)).bind fun(m_2,code_7)=>
 (pz2f fuel m_2 (⟨c38,c39,c40,c41,c42⟩:DBl) i5 (if 1>(d_1.blocks.length:Int) then 1 else(d_1.blocks.length:Int))).bind fun r5=>
 (app code_7 [r5]).bind fun l11=>
 (pz2a fuel i5).bind fun r6=>
 (app m_2.f.blocks [(⟨r6,false,([]:List Opd),l11⟩:Bl)]).bind fun l12=>
 some (m_2.f.machine,m_2.f.name,m_2.f.regs,m_2.f.params,l12,m_2.ids.a0,m_2.ids.a1,m_2.has,([]:List Ins))
def pz2m(fuel:Nat)(d_1:Drf):Option Fnc:=
 (toN 0 2 (fun i s=>pz2h fuel d_1 i s.1 s.2) (([]:List Int),([]:List Int))).bind fun(c3,c4)=>
 (toN 0 12 (fun i s=>pz2i fuel d_1 i s) ([]:List Rg)).bind fun c14=>
 bindE (loopE fuel (fun s=>pz2j fuel d_1 c14 s.1 s.2.1 s.2.2.1 s.2.2.2) (0,([]:List Opd),([]:List Int),([]:List Ins))) (fun(i_4,c18,c19,code_2)=>
 (app ([]:List Int) c19).bind fun l8=>
 (toN 0 (if 1>(d_1.blocks.length:Int) then 1 else(d_1.blocks.length:Int)) (fun i s=>pz2l fuel d_1 l8 i s.1 s.2.1 s.2.2.1 s.2.2.2.1 s.2.2.2.2.1 s.2.2.2.2.2.1 s.2.2.2.2.2.2.1 s.2.2.2.2.2.2.2.1 s.2.2.2.2.2.2.2.2) (false,(⟨#[102]⟩:ByteArray),c14,c18,([]:List Bl),c3,c4,c19,code_2)).bind fun(c30,c31,c32,c33,c34,c35,c36,c37,code_5)=>
 some (⟨c30,c31,c32,c33,c34⟩:Fnc)) some
def pz2n(fuel:Nat)(f_1:Fnc)(label_1:ByteArray)(i1:Int):Option (Ex Unit Int):=
 (idx f_1.blocks i1).bind fun x1=>
 if decide (x1.label=label_1)=true then
  some (.r (i1))
 else
  some (.n ())
def pz2o(fuel:Nat)(f_1:Fnc)(label_1:ByteArray):Option Int:=
 bindE (toE 0 (f_1.blocks.length:Int) (fun i _=>pz2n fuel f_1 label_1 i) ()) (fun _=>
 some (-1)) some
def pz2p(fuel:Nat)(r3:Fnc)(i1:Int)(has_1:List Int):Option ((List Int)):=
 (idx r3.params i1).bind fun x1=>
 (app has_1 ([x1.n]:List Int)).bind fun l1=>
 some l1
def pz2q(fuel:Nat)(has_5:List Int)(r5:List Int)(i4:Int):Option (Ex Unit (Ex ((List Int)) (Ex ((List Int)×Int) Bool))):=
 (idx r5 i4).bind fun x3=>
 (pz28 fuel has_5 x3).bind fun r6=>
 if(!r6)=true then
  some (.r (.r (.r (false))))
 else
  some (.n ())
def pz2r(fuel:Nat)(r4:zG)(b_1:Int)(x2:Bl)(i3:Int)(has_5:List Int):Option (Ex ((List Int)) (Ex ((List Int)×Int) Bool)):=
 (pz21 fuel r4 b_1 i3).bind fun r5=>
 bindE (toE 0 (r5.length:Int) (fun i _=>pz2q fuel has_5 r5 i) ()) (fun _=>
 (idx x2.code i3).bind fun x4=>
 if decide (x4.dst.kind=1)=true then
  (app has_5 ([x4.dst.n]:List Int)).bind fun l2=>
  some (.n l2)
 else
  some (.n has_5)) some
def pz2s(fuel:Nat)(turns_1:List Int)(r3:Fnc)(r4:zG)(i2:Int)(has_3:List Int)(b_1:Int):Option (Ex ((List Int)×Int) Bool):=
 (idx r3.blocks b_1).bind fun x2=>
 bindE (toE 0 (x2.code.length:Int) (fun i s=>pz2r fuel r4 b_1 x2 i s) has_3) (fun has_6=>
 (idx x2.code (IntKind.wrap .i64 ((x2.code.length:Int)-1))).bind fun x5=>
 if decide ((x5.labels.length:Int)=0)=true then
  some (.b (has_6,b_1))
 else
  (idx turns_1 i2).bind fun x6=>
  (rem (IntKind.wrap .i64 x6) (x5.labels.length:Int)).bind fun x7=>
  (idx x5.labels x7).bind fun x8=>
  (pz2o fuel r3 x8).bind fun r7=>
  some (.n (has_6,r7))) some
def pz2t(fuel:Nat)(d_1:Drf)(turns_1:List Int):Option Bool:=
 (pz1 fuel d_1).bind fun r1=>
 if(r1||(decide (30<(turns_1.length:Int))))=true then
  (pz24 fuel).bind fun r2=>
  some r2
 else
  (pz2m fuel d_1).bind fun r3=>
  (pz1p fuel r3).bind fun r4=>
  (toN 0 (r3.params.length:Int) (fun i s=>pz2p fuel r3 i s) ([]:List Int)).bind fun has_2=>
  bindE (toE 0 (turns_1.length:Int) (fun i s=>pz2s fuel turns_1 r3 r4 i s.1 s.2) (has_2,0)) (fun(has_4,b_2)=>
  (pz24 fuel).bind fun r8=>
  some r8) some
end Go.Proofs.YtjjdblcinoikeaaDoor.PL
