/- Functions of the program as pure ones. Printed by tq.py. -/
import Derived.Test.YtjjdblcinoikeaaDoorPD
import Derived.Test.YtjjdblcinoikeaaDoorPM
set_option linter.unusedVariables false
namespace Go.Proofs.YtjjdblcinoikeaaDoor.PL
open Go
def pz0(fuel:Nat)(x2:Ins)(i3:Int)(nv_5:Int):Option Int:=
 (idx x2.labels i3).bind fun x3=>
 some (IntKind.wrap .i64 ((IntKind.wrap .i64 (nv_5+1))+(x3.size:Int)))
def pz1(fuel:Nat)(x1:Bl)(i2:Int)(nv_3:Int):Option Int:=
 (idx x1.code i2).bind fun x2=>
 (toN 0 (x2.labels.length:Int) (fun i s=>pz0 fuel x2 i s) (IntKind.wrap .i64 ((IntKind.wrap .i64 ((IntKind.wrap .i64 ((IntKind.wrap .i64 (nv_3+1))+(x2.args.length:Int)))+(x2.name.size:Int)))+(x2.cases.length:Int)))).bind fun nv_6=>
 some nv_6
def pz2(fuel:Nat)(f_1:Fnc)(i1:Int)(nv_1:Int):Option Int:=
 (idx f_1.blocks i1).bind fun x1=>
 (toN 0 (x1.code.length:Int) (fun i s=>pz1 fuel x1 i s) (IntKind.wrap .i64 ((IntKind.wrap .i64 (nv_1+(x1.label.size:Int)))+(x1.ins.length:Int)))).bind fun nv_4=>
 some nv_4
def pz3(fuel:Nat)(f_1:Fnc):Option Bool:=
 (toN 0 (f_1.blocks.length:Int) (fun i s=>pz2 fuel f_1 i s) (IntKind.wrap .i64 ((IntKind.wrap .i64 ((f_1.name.size:Int)+(f_1.regs.length:Int)))+(f_1.params.length:Int)))).bind fun nv_2=>
 some ((decide (2000<nv_2))||(decide (80<(f_1.blocks.length:Int))))
def pz4(fuel:Nat)(nv_1:Int):Option Opd:=
 some (⟨1,0,nv_1,0⟩:Opd)
def pz5(fuel:Nat)(x:Nat)(a0_:Int):Option Opd:=
 if x=17 then pz4 fuel a0_ else none
def pz6(fuel:Nat)(nv_1:Int)(p_1:Nat):Option Ins:=
 (pz5 fuel p_1 nv_1).bind fun r1=>
 some (⟨16,r1,([(⟨4,0,0,0⟩:Opd)]:List Opd),(⟨#[]⟩:ByteArray),0,[],[]⟩:Ins)
def pz7(fuel:Nat)(l_1:List ByteArray)(p_1:Nat):Option Ins:=
 (pz5 fuel p_1 1).bind fun r1=>
 some (⟨21,(⟨0,0,0,0⟩:Opd),([r1]:List Opd),(⟨#[]⟩:ByteArray),0,l_1,[]⟩:Ins)
def pz8(fuel:Nat)(l:List Int):Option (List Int):=if l.length≤4294967296 then some (isort l) else none
def pz9(fuel:Nat)(l:List Int):Option (List Int):=if l.length≤4294967296 then some (Lib.compact l) else none
def pza(fuel:Nat)(s_1:zD)(i_1:Int):Option Bool:=
 some ((decide (0≤i_1))&&(decide (i_1<s_1.n)))
def pzb(fuel:Nat)(s_1:zD)(i_1:Int):Option Bool:=
 (pza fuel s_1 i_1).bind fun r1=>
 (if r1=true then(idx s_1.words (IntKind.wrap .i64 (Int.tdiv i_1 64))).bind fun x1=>
 (shr .u64 x1 (Int.tmod i_1 64)).bind fun x2=>
 some (decide ((band .u64 x2 1)=1)) else some false).bind fun b1=>
 some b1
def pzc(fuel:Nat)(nv_1:Int):Option zD:=
 (mk (IntKind.wrap .i64 (Int.tdiv (IntKind.wrap .i64 ((IntKind.wrap .i64 ((if 0>nv_1 then 0 else nv_1)+64))-1)) 64)) (0:Int)).bind fun l1=>
 some (⟨(if 0>nv_1 then 0 else nv_1),l1⟩:zD)
def pzd(fuel:Nat)(s_1:zD)(i_1:Int):Option (Bool×zD):=
 (pza fuel s_1 i_1).bind fun r1=>
 (if(!r1)=true then some true else(pzb fuel s_1 i_1).bind fun r2=>
 some r2).bind fun b1=>
 if b1=true then
  some (false,s_1)
 else
  (idx s_1.words (IntKind.wrap .i64 (Int.tdiv i_1 64))).bind fun x1=>
  (shl .u64 1 (Int.tmod i_1 64)).bind fun x2=>
  (setI s_1.words (IntKind.wrap .i64 (Int.tdiv i_1 64)) (bor .u64 x1 x2)).bind fun l1=>
  some (true,(⟨s_1.n,l1⟩:zD))
def pze(fuel:Nat)(x_1:Int):Option Bool:=
 some (decide (x_1≠x_1))
def pzf(fuel:Nat)(x_1:Int)(y_1:Int):Option Bool:=
 (pze fuel x_1).bind fun r1=>
 (if r1=true then(pze fuel y_1).bind fun r2=>
 some (!r2) else some false).bind fun b1=>
 some (b1||(decide (x_1<y_1)))
def pzg(fuel:Nat)(x_1:Int):Option Bool:=
 some (decide (x_1≠x_1))
def pzh(fuel:Nat)(x_1:List Int)(target_1:Int)(i_1:Int)(j_1:Int):Option (Ex (Int×Int) (Int×Bool)):=
 if decide (i_1<j_1)=true then
  (shr .u64 (IntKind.wrap .u64 (IntKind.wrap .i64 (i_1+j_1))) 1).bind fun x1=>
  (idx x_1 (IntKind.wrap .i64 x1)).bind fun x2=>
  (pzf fuel x2 target_1).bind fun r1=>
  if r1=true then
   some (.n (IntKind.wrap .i64 ((IntKind.wrap .i64 x1)+1),j_1))
  else
   some (.n (i_1,IntKind.wrap .i64 x1))
 else
  some (.b (i_1,j_1))
def pzi(fuel:Nat)(x_1:List Int)(target_1:Int):Option (Int×Bool):=
 bindE (loopE fuel (fun s=>pzh fuel x_1 target_1 s.1 s.2) (0,(x_1.length:Int))) (fun(i_2,j_2)=>
 (if(decide (i_2<(x_1.length:Int)))=true then(idx x_1 i_2).bind fun x3=>
 (if(decide (x3=target_1))=true then some true else(pzg fuel x3).bind fun r2=>
 (if r2=true then(pzg fuel target_1).bind fun r3=>
 some r3 else some false).bind fun b1=>
 some b1).bind fun b2=>
 some b2 else some false).bind fun b3=>
 some (i_2,b3)) some
def pzj(fuel:Nat)(k_1:zE)(v_1:Int):Option Int:=
 (pzi fuel k_1.ids v_1).bind fun(r1,r2)=>
 if(!r2)=true then
  some (-1)
 else
  some r1
def pzk(fuel:Nat)(r1:zD)(x_1:Int)(s_1:zD):Option (Ex (Int×zD) zD):=
 if decide (x_1<r1.n)=true then
  (pzd fuel s_1 x_1).bind fun(r2,m2)=>
  some (.n (IntKind.wrap .i64 (x_1+1),m2))
 else
  some (.b (x_1,s_1))
def pzl(fuel:Nat)(nv_1:Int):Option zD:=
 (pzc fuel nv_1).bind fun r1=>
 bindE (loopE fuel (fun s=>pzk fuel r1 s.1 s.2) (0,r1)) (fun(x_2,s_2)=>
 some s_2) some
def pzm(fuel:Nat)(op_1:Int):Option Bool:=
 some ((decide (20≤op_1))&&(decide (op_1≤23)))
def pzn(fuel:Nat)(b_1:Bl):Option (Ins×Bool):=
 if decide ((b_1.code.length:Int)=0)=true then
  some ((⟨0,(⟨0,0,0,0⟩:Opd),[],(⟨#[]⟩:ByteArray),0,[],[]⟩:Ins),false)
 else
  (idx b_1.code (IntKind.wrap .i64 ((b_1.code.length:Int)-1))).bind fun x1=>
  (pzm fuel x1.op).bind fun r1=>
  some (x1,r1)
def pzo(fuel:Nat)(b_1:Bl)(p_1:ByteArray):Option Bool:=
 some (decide (b_1.label=p_1))
def pzp(fuel:Nat)(s_1:List Bl)(w1:ByteArray)(x_1:Int):Option (Ex Int Int):=
 if decide (x_1<(s_1.length:Int))=true then
  (idx s_1 x_1).bind fun x1=>
  (pzo fuel x1 w1).bind fun r1=>
  if r1=true then
   some (.r (x_1))
  else
   some (.n (IntKind.wrap .i64 (x_1+1)))
 else
  some (.b x_1)
def pzq(fuel:Nat)(s_1:List Bl)(w1:ByteArray):Option Int:=
 bindE (loopE fuel (fun s=>pzp fuel s_1 w1 s) 0) (fun x_2=>
 some (-1)) some
def pzr(fuel:Nat)(f_1:Fnc)(label_1:ByteArray):Option Int:=
 (pzq fuel f_1.blocks label_1).bind fun r1=>
 some r1
def pzs(fuel:Nat)(s_1:List Int)(v_1:Int)(x_1:Int):Option (Ex Int Int):=
 if decide (x_1<(s_1.length:Int))=true then
  (idx s_1 x_1).bind fun x1=>
  if decide (v_1=x1)=true then
   some (.r (x_1))
  else
   some (.n (IntKind.wrap .i64 (x_1+1)))
 else
  some (.b x_1)
def pzt(fuel:Nat)(s_1:List Int)(v_1:Int):Option Int:=
 bindE (loopE fuel (fun s=>pzs fuel s_1 v_1 s) 0) (fun x_2=>
 some (-1)) some
def pzu(fuel:Nat)(s_1:List Int)(v_1:Int):Option Bool:=
 (pzt fuel s_1 v_1).bind fun r1=>
 some (decide (0≤r1))
def pzv(fuel:Nat)(f_1:Fnc)(x_1:Int)(r1:Ins)(c7:List (List Int))(c8:List (List Int))(x_3:Int):Option (Ex ((List (List Int))×(List (List Int))×Int) ((List (List Int))×(List (List Int)))):=
 if decide (x_3<(r1.labels.length:Int))=true then
  ((idx r1.labels x_3).bind fun x2=>
  (pzr fuel f_1 x2).bind fun r3=>
  (if(decide (0≤r3))=true then(idx c7 x_1).bind fun x3=>
  (pzu fuel x3 r3).bind fun r5=>
  some (!r5) else some false).bind fun b1=>
  if b1=true then
   (idx c7 x_1).bind fun x4=>
   (app x4 ([r3]:List Int)).bind fun l3=>
   (setI c7 x_1 l3).bind fun l4=>
   (idx c8 r3).bind fun x5=>
   (app x5 ([x_1]:List Int)).bind fun l5=>
   (setI c8 r3 l5).bind fun l6=>
   some (l4,l6)
  else
   some (c7,c8):Option ((List (List Int))×(List (List Int)))).bind fun(c11,c12)=>
  some (.n (c11,c12,IntKind.wrap .i64 (x_3+1)))
 else
  some (.b (c7,c8,x_3))
def pzw(fuel:Nat)(f_1:Fnc)(x_1:Int)(c1:List (List Int))(c2:List (List Int)):Option (Ex (Int×(List (List Int))×(List (List Int))) zU):=
 if decide (x_1<(f_1.blocks.length:Int))=true then
  ((idx f_1.blocks x_1).bind fun x1=>
  (pzn fuel x1).bind fun(r1,r2)=>
  if(!r2)=true then
   some (c1,c2)
  else
   bindE (loopE fuel (fun s=>pzv fuel f_1 x_1 r1 s.1 s.2.1 s.2.2) (c1,c2,0)) (fun(c9,c10,x_4)=>
   some (c9,c10)) some:Option ((List (List Int))×(List (List Int)))).bind fun(c5,c6)=>
  some (.n (IntKind.wrap .i64 (x_1+1),c5,c6))
 else
  some (.b (x_1,c1,c2))
def pzx(fuel:Nat)(f_1:Fnc):Option zU:=
 (mk (f_1.blocks.length:Int) ([]:List Int)).bind fun l1=>
 (mk (f_1.blocks.length:Int) ([]:List Int)).bind fun l2=>
 bindE (loopE fuel (fun s=>pzw fuel f_1 s.1 s.2.1 s.2.2) (0,l1,l2)) (fun(x_2,c3,c4)=>
 some (⟨c3,c4⟩:zU)) some
def pzy(fuel:Nat)(g_1:zU):Option Int:=
 some (g_1.succ.length:Int)
def pzz(fuel:Nat)(i_1:Int)(p_1:zD)(p_2:List (A2 Int)):Option (zD×(List (A2 Int))):=
 (pzd fuel p_1 i_1).bind fun(r1,m1)=>
 if r1=true then
  (app p_2 ([(⟨i_1,0⟩:A2 Int)]:List (A2 Int))).bind fun l1=>
  some (m1,l1)
 else
  some (m1,p_2)
def pz10(fuel:Nat)(g_1:zU)(out_1:List Int)(steps_1:List (A2 Int))(c1:zD):Option (Ex ((List Int)×(List (A2 Int))×zD) ((List Int))):=
 if decide (0<(steps_1.length:Int))=true then
  (idx steps_1 (IntKind.wrap .i64 ((steps_1.length:Int)-1))).bind fun x1=>
  (idx g_1.succ x1.a0).bind fun x2=>
  if decide (x1.a1=(x2.length:Int))=true then
   (sli steps_1 0 (IntKind.wrap .i64 ((steps_1.length:Int)-1))).bind fun l1=>
   (app out_1 ([x1.a0]:List Int)).bind fun l2=>
   some (.n (l2,l1,c1))
  else
   (setI steps_1 (IntKind.wrap .i64 ((steps_1.length:Int)-1)) (⟨x1.a0,IntKind.wrap .i64 (x1.a1+1)⟩:A2 Int)).bind fun l3=>
   (idx x2 x1.a1).bind fun x3=>
   (pzz fuel x3 c1 l3).bind fun(m4,m5)=>
   some (.n (out_1,m5,m4))
 else
  some (.b (out_1,steps_1,c1))
def pz11(fuel:Nat)(g_1:zU):Option ((List Int)):=
 (pzy fuel g_1).bind fun r1=>
 (pzc fuel r1).bind fun r2=>
 (pzz fuel 0 r2 ([]:List (A2 Int))).bind fun(m1,m2)=>
 bindE (loopE fuel (fun s=>pz10 fuel g_1 s.1 s.2.1 s.2.2) (([]:List Int),m2,m1)) (fun(out_2,steps_2,c2)=>
 some out_2) some
def pz12(fuel:Nat)(s_2:List Int)(i_1:Int)(j_1:Int):Option (Ex ((List Int)×Int×Int) ((List Int))):=
 if decide (i_1<j_1)=true then
  (idx s_2 j_1).bind fun x1=>
  (idx s_2 i_1).bind fun x2=>
  (setI s_2 i_1 x1).bind fun l1=>
  (idx l1 j_1).bind fun x3=>
  (setI l1 j_1 x2).bind fun l2=>
  some (.n (l2,IntKind.wrap .i64 (i_1+1),IntKind.wrap .i64 (j_1-1)))
 else
  some (.b (s_2,i_1,j_1))
def pz13(fuel:Nat)(s_1:List Int):Option ((List Int)):=
 bindE (loopE fuel (fun s=>pz12 fuel s.1 s.2.1 s.2.2) (s_1,0,IntKind.wrap .i64 ((s_1.length:Int)-1))) (fun(s_3,i_2,j_2)=>
 some s_3) some
def pz14(fuel:Nat)(s:List Int):Option (List Int):=app [] s
def pz15(fuel:Nat)(o_1:Opd):Option (Int×Bool):=
 bindE (
  if decide (o_1.kind=1)=true then
   some (.r ((o_1.n,true)))
  else
   (if decide (o_1.kind=2)=true then
    some (decide (o_1.kind=2))
   else
    some (decide (o_1.kind=3)):Option Bool).bind fun x_1=>
   if x_1=true then
    some (.r ((o_1.tag,true)))
   else
    some (.n ())) (fun _=>
 some (0,false)) some
def pz16(fuel:Nat)(i_1:Ins):Option (Int×Bool):=
 (pz15 fuel i_1.dst).bind fun(r1,r2)=>
 some (r1,r2)
def pz17(fuel:Nat)(s_1:zD):Option zD:=
 (pz14 fuel s_1.words).bind fun r1=>
 some (⟨s_1.n,r1⟩:zD)
def pz18(fuel:Nat)(k_1:zE)(s_1:zD)(i_1:Ins):Option zD:=
 (pz16 fuel i_1).bind fun(r1,r2)=>
 if(r2&&(decide (i_1.dst.kind=1)))=true then
  (pzj fuel k_1 r1).bind fun r3=>
  (pzd fuel s_1 r3).bind fun(r4,m1)=>
  some m1
 else
  some s_1
def pz19(fuel:Nat)(k_1:zE)(l1:List Ins)(x_1:Int)(s_1:zD):Option (Ex (Int×zD) zD):=
 if decide (x_1<(l1.length:Int))=true then
  (idx l1 x_1).bind fun x3=>
  (pz18 fuel k_1 s_1 x3).bind fun m2=>
  some (.n (IntKind.wrap .i64 (x_1+1),m2))
 else
  some (.b (x_1,s_1))
def pz1a(fuel:Nat)(k_1:zE)(b_1:Int)(nv_1:Int):Option zD:=
 (idx k_1.in_ b_1).bind fun x1=>
 (pz17 fuel x1).bind fun r1=>
 (idx k_1.f.blocks b_1).bind fun x2=>
 (sli x2.code 0 nv_1).bind fun l1=>
 bindE (loopE fuel (fun s=>pz19 fuel k_1 l1 s.1 s.2) (0,r1)) (fun(x_2,s_2)=>
 some s_2) some
def pz1b(fuel:Nat)(s:List Int):Option (List Int):=app [] s
def pz1c(fuel:Nat)(g_1:zU)(i_1:Int)(which_1:Int):Option ((List Int)):=
 (if(decide (i_1<0))=true then some true else(pzy fuel g_1).bind fun r1=>
 some (decide (r1≤i_1))).bind fun b1=>
 if b1=true then
  some ([]:List Int)
 else
  (ix2 which_1).bind fun c1=>
  (idx ((⟨g_1.succ,g_1.pred⟩:A2 (List (List Int))).at c1) i_1).bind fun x1=>
  (pz1b fuel x1).bind fun r2=>
  some r2
def pz1d(fuel:Nat)(g_1:zU)(i_1:Int):Option ((List Int)):=
 (pz1c fuel g_1 i_1 0).bind fun r1=>
 some r1
def pz1e(fuel:Nat)(av_1:Int)(b_1:Int):Option Int:=
 some (band .u64 av_1 b_1)
def pz1f(fuel:Nat)(s_1:zD)(k_1:Int):Option Int:=
 if decide ((IntKind.wrap .i64 (s_1.n-(IntKind.wrap .i64 (k_1*64))))<64)=true then
  (shl .u64 1 (IntKind.wrap .i64 (s_1.n-(IntKind.wrap .i64 (k_1*64))))).bind fun x1=>
  some (IntKind.wrap .u64 (x1-1))
 else
  some 18446744073709551615
def pz1g(fuel:Nat)(k_1:zE)(l1:List Ins)(x_1:Int)(s_1:zD):Option (Ex (Int×zD) zD):=
 if decide (x_1<(l1.length:Int))=true then
  (idx l1 x_1).bind fun x3=>
  (pz18 fuel k_1 s_1 x3).bind fun m2=>
  some (.n (IntKind.wrap .i64 (x_1+1),m2))
 else
  some (.b (x_1,s_1))
def pz1h(fuel:Nat)(k_1:zE)(b_1:Int)(nv_1:Int):Option zD:=
 (idx k_1.in_ b_1).bind fun x1=>
 (pz17 fuel x1).bind fun r2=>
 (idx k_1.f.blocks b_1).bind fun x2=>
 (sli x2.code 0 nv_1).bind fun l1=>
 bindE (loopE fuel (fun s=>pz1g fuel k_1 l1 s.1 s.2) (0,r2)) (fun(x_2,s_2)=>
 some s_2) some
def pz1i(fuel:Nat)(s_1:zD)(o_1:zD)(c2:List Int)(x_1:Int)(changed_1:Bool):Option (Ex ((List Int)×Int×Bool) (Bool×zD)):=
 if decide (x_1<(s_1.words.length:Int))=true then
  ((idx c2 x_1).bind fun x1=>
  (if decide (x_1<(o_1.words.length:Int))=true then
   (idx o_1.words x_1).bind fun x2=>
   some x2
  else
   some 0:Option Int).bind fun b_1=>
  (pz1e fuel x1 b_1).bind fun r1=>
  (pz1f fuel (⟨s_1.n,c2⟩:zD) x_1).bind fun r2=>
  (setI c2 x_1 (band .u64 r1 r2)).bind fun l1=>
  some (l1,(changed_1||(decide ((band .u64 r1 r2)≠x1)))):Option ((List Int)×Bool)).bind fun(c4,changed_3)=>
  some (.n (c4,IntKind.wrap .i64 (x_1+1),changed_3))
 else
  some (.b (c2,x_1,changed_1))
def pz1j(fuel:Nat)(s_1:zD)(o_1:zD):Option (Bool×zD):=
 bindE (loopE fuel (fun s=>pz1i fuel s_1 o_1 s.1 s.2.1 s.2.2) (s_1.words,0,false)) (fun(c3,x_2,changed_2)=>
 some (changed_2,(⟨s_1.n,c3⟩:zD))) some
def pz1k(fuel:Nat)(s_1:zD)(o_1:zD):Option (Bool×zD):=
 (pz1j fuel s_1 o_1).bind fun(r1,m1)=>
 some (r1,m1)
def pz1l(fuel:Nat)(g_1:zU):Option ((List Int)):=
 (pzy fuel g_1).bind fun r1=>
 if decide (r1=0)=true then
  some ([]:List Int)
 else
  (pz11 fuel g_1).bind fun r2=>
  (pz13 fuel r2).bind fun m1=>
  some m1
def pz1m(fuel:Nat)(f_1:Fnc)(x_1:Int)(c1:List Int):Option (Ex (Int×(List Int)) zE):=
 if decide (x_1<(f_1.regs.length:Int))=true then
  (idx f_1.regs x_1).bind fun x1=>
  (app c1 ([x1.id]:List Int)).bind fun l1=>
  some (.n (IntKind.wrap .i64 (x_1+1),l1))
 else
  some (.b (x_1,c1))
def pz1n(fuel:Nat)(f_1:Fnc)(r1:List Int)(c3:List zD)(x_3:Int):Option (Ex ((List zD)×Int) zE):=
 if decide (x_3<(f_1.blocks.length:Int))=true then
  (pzl fuel (r1.length:Int)).bind fun r2=>
  (app c3 [r2]).bind fun l2=>
  some (.n (l2,IntKind.wrap .i64 (x_3+1)))
 else
  some (.b (c3,x_3))
def pz1o(fuel:Nat)(f_1:Fnc)(r1:List Int)(c4:List zD)(first_1:zD)(x_5:Int):Option (Ex (zD×Int) zE):=
 if decide (x_5<(f_1.params.length:Int))=true then
  ((idx f_1.params x_5).bind fun x2=>
  if decide (x2.kind=1)=true then
   (pzj fuel (⟨f_1,r1,c4⟩:zE) x2.n).bind fun r4=>
   (pzd fuel first_1 r4).bind fun(r5,m5)=>
   some m5
  else
   some first_1:Option zD).bind fun first_3=>
  some (.n (first_3,IntKind.wrap .i64 (x_5+1)))
 else
  some (.b (first_1,x_5))
def pz1p(fuel:Nat)(r9:zD)(r10:List Int)(wait_3:List Int)(x_7:Int)(k_3:zE):Option (Ex ((List Int)×Int×zE) (Ex ((List Int)×zE) zE)):=
 if decide (x_7<(r10.length:Int))=true then
  ((idx r10 x_7).bind fun x6=>
  (idx k_3.in_ x6).bind fun x7=>
  (pz1k fuel x7 r9).bind fun(r12,m8)=>
  (if r12=true then(pzu fuel wait_3 x6).bind fun r13=>
  some (!r13) else some false).bind fun b1=>
  (setI k_3.in_ x6 m8).bind fun l5=>
  if b1=true then
   (app wait_3 ([x6]:List Int)).bind fun l6=>
   some (l6,k_3.f.machine,k_3.f.name,k_3.f.regs,k_3.f.params,k_3.f.blocks,k_3.ids,l5)
  else
   some (wait_3,k_3.f.machine,k_3.f.name,k_3.f.regs,k_3.f.params,k_3.f.blocks,k_3.ids,l5):Option ((List Int)×Bool×ByteArray×(List Rg)×(List Opd)×(List Bl)×(List Int)×(List zD))).bind fun(wait_5,c6,c7,c8,c9,c10,c11,c12)=>
  some (.n (wait_5,IntKind.wrap .i64 (x_7+1),(⟨(⟨c6,c7,c8,c9,c10⟩:Fnc),c11,c12⟩:zE)))
 else
  some (.b (wait_3,x_7,k_3))
def pz1q(fuel:Nat)(f_1:Fnc)(r7:zU)(wait_1:List Int)(k_1:zE):Option (Ex ((List Int)×zE) zE):=
 if decide (0<(wait_1.length:Int))=true then
  (idx wait_1 0).bind fun x4=>
  (sli wait_1 1 (wait_1.length:Int)).bind fun l4=>
  (idx f_1.blocks x4).bind fun x5=>
  (pz1h fuel k_1 x4 (x5.code.length:Int)).bind fun r9=>
  (pz1d fuel r7 x4).bind fun r10=>
  bindE (loopE fuel (fun s=>pz1p fuel r9 r10 s.1 s.2.1 s.2.2) (l4,0,k_1)) (fun(wait_4,x_8,k_4)=>
  some (.n (wait_4,k_4))) some
 else
  some (.b (wait_1,k_1))
def pz1r(fuel:Nat)(f_1:Fnc):Option zE:=
 bindE (loopE fuel (fun s=>pz1m fuel f_1 s.1 s.2) (0,([]:List Int))) (fun(x_2,c2)=>
 (pz8 fuel c2).bind fun m2=>
 (pz9 fuel m2).bind fun r1=>
 bindE (loopE fuel (fun s=>pz1n fuel f_1 r1 s.1 s.2) (([]:List zD),0)) (fun(c4,x_4)=>
 if decide ((f_1.blocks.length:Int)=0)=true then
  some (⟨f_1,r1,c4⟩:zE)
 else
  (pzc fuel (r1.length:Int)).bind fun r3=>
  bindE (loopE fuel (fun s=>pz1o fuel f_1 r1 c4 s.1 s.2) (r3,0)) (fun(first_2,x_6)=>
  (idx c4 0).bind fun x3=>
  (setI c4 0 first_2).bind fun l3=>
  (pzx fuel f_1).bind fun r7=>
  (pz1l fuel r7).bind fun r8=>
  bindE (loopE fuel (fun s=>pz1q fuel f_1 r7 s.1 s.2) (r8,(⟨f_1,r1,l3⟩:zE))) (fun(wait_2,k_2)=>
  some k_2) some) some) some) some
def pz1s(fuel:Nat)(k_1:zE)(x_1:Int)(x_3:Int)(s_1:zD)(x3:Ins)(x_5:Int):Option (Ex Int (Ex (Int×zD) (Ex Int (Int×Int×Int×Bool)))):=
 if decide (x_5<(x3.args.length:Int))=true then
  (idx x3.args x_5).bind fun x4=>
  (if(decide (x4.kind=1))=true then(pzj fuel k_1 x4.n).bind fun r2=>
  (pzb fuel s_1 r2).bind fun r3=>
  some (!r3) else some false).bind fun b1=>
  if b1=true then
   some (.r (.r (.r ((x_1,x_3,x4.n,true)))))
  else
   some (.n (IntKind.wrap .i64 (x_5+1)))
 else
  some (.b x_5)
def pz1t(fuel:Nat)(k_1:zE)(x_1:Int)(x2:Bl)(x_3:Int)(s_1:zD):Option (Ex (Int×zD) (Ex Int (Int×Int×Int×Bool))):=
 if decide (x_3<(x2.code.length:Int))=true then
  (idx x2.code x_3).bind fun x3=>
  bindE (loopE fuel (fun s=>pz1s fuel k_1 x_1 x_3 s_1 x3 s) 0) (fun x_6=>
  (pz18 fuel k_1 s_1 x3).bind fun m4=>
  some (.n (IntKind.wrap .i64 (x_3+1),m4))) some
 else
  some (.b (x_3,s_1))
def pz1u(fuel:Nat)(k_1:zE)(x_1:Int):Option (Ex Int (Int×Int×Int×Bool)):=
 if decide (x_1<(k_1.in_.length:Int))=true then
  (idx k_1.in_ x_1).bind fun x1=>
  (pz17 fuel x1).bind fun r1=>
  (idx k_1.f.blocks x_1).bind fun x2=>
  bindE (loopE fuel (fun s=>pz1t fuel k_1 x_1 x2 s.1 s.2) (0,r1)) (fun(x_4,s_2)=>
  some (.n (IntKind.wrap .i64 (x_1+1)))) some
 else
  some (.b x_1)
def pz1v(fuel:Nat)(k_1:zE):Option (Int×Int×Int×Bool):=
 bindE (loopE fuel (fun s=>pz1u fuel k_1 s) 0) (fun x_2=>
 some (0,0,0,false)) some
def pz1w(fuel:Nat)(s_1:zD):Option zD:=
 some s_1
def tab_0:List Int:=[0,1,56,2,57,49,28,3,61,58,42,50,38,29,17,4,62,47,59,36,45,43,51,22,53,39,33,30,24,18,12,5,63,55,48,27,60,41,37,16,46,35,44,21,52,32,23,11,54,26,40,15,34,20,31,10,25,14,19,9,13,8,7,6]
def pz1x(fuel:Nat)(x_1:Int):Option Int:=
 if decide (x_1=0)=true then
  some 64
 else
  (shr .u64 (IntKind.wrap .u64 ((band .u64 x_1 (IntKind.wrap .u64 (0-x_1)))*285870213051353865)) 58).bind fun x1=>
  (idx tab_0 x1).bind fun x2=>
  some (IntKind.wrap .i64 x2)
def pz1y(fuel:Nat){σ:Type}(y:σ→Int→Option (Bool×σ))(x_1:Int)(w_1:Int)(c3:Bool×σ):Option (Ex (Int×(Bool×σ)) (Ex (Int×(Bool×σ)) ((Bool×σ)))):=
 if decide (w_1≠0)=true then
  (pz1x fuel w_1).bind fun r1=>
  (yl y c3 (IntKind.wrap .i64 ((IntKind.wrap .i64 (x_1*64))+r1))).bind fun(r2,m3)=>
  if(!r2)=true then
   some (.r (.r (m3)))
  else
   some (.n (band .u64 w_1 (IntKind.wrap .u64 (w_1-1)),m3))
 else
  some (.b (w_1,c3))
def pz1z(fuel:Nat){σ:Type}(y:σ→Int→Option (Bool×σ))(s_1:zD)(x_1:Int)(c1:Bool×σ):Option (Ex (Int×(Bool×σ)) ((Bool×σ))):=
 if decide (x_1<(s_1.words.length:Int))=true then
  (idx s_1.words x_1).bind fun x1=>
  bindE (loopE fuel (fun s=>pz1y fuel y x_1 s.1 s.2) (x1,c1)) (fun(w_2,c4)=>
  some (.n (IntKind.wrap .i64 (x_1+1),c4))) some
 else
  some (.b (x_1,c1))
def pz20(fuel:Nat){σ:Type}(y:σ→Int→Option (Bool×σ))(s_1:zD)(w1:Bool×σ):Option ((Bool×σ)):=
 bindE (loopE fuel (fun s=>pz1z fuel y s_1 s.1 s.2) (0,w1)) (fun(x_2,c2)=>
 some c2) some
def bitsW(k w:Nat):List Int:=((List.range 64).filter fun j=>w.testBit j).map fun(j:Nat)=>((64*k+j:Nat):Int)
def bitsL:Nat→List Int→List Int
 |_,[]=>[]
 |k,w::ws=>bitsW k w.toNat++bitsL (k+1) ws
def yY(fuel:Nat)(s:zD):Option (List Int):=
 if s.words.length<4194304∧s.words.length<fuel∧65<fuel∧ ∀w∈s.words,0≤w∧w<18446744073709551616 then some (bitsL 0 s.words) else none
def pz21(fuel:Nat)(k_1:zE)(o1:Int)(out_1:List Int):Option (Ex ((List Int)) ((List Int))):=
 (idx k_1.ids o1).bind fun x1=>
 (app out_1 ([x1]:List Int)).bind fun l1=>
 some (.n l1)
def pz22(fuel:Nat)(k_1:zE)(s_1:zD):Option ((List Int)):=
 (pz1w fuel s_1).bind fun r1=>
 (yY fuel r1).bind fun xs1=>
 bindX (rangeE (fun s x=>pz21 fuel k_1 x s) ([]:List Int) xs1) (fun out_2=>
  some out_2) (fun _=>none) (fun _=>none)
def pz23(fuel:Nat)(k_1:zE)(b_1:Int)(i_1:Int):Option ((List Int)):=
 (if(((decide (b_1<0))||(decide ((k_1.in_.length:Int)≤b_1)))||(decide (i_1<0)))=true then some true else(idx k_1.f.blocks b_1).bind fun x1=>
 some (decide ((x1.code.length:Int)<i_1))).bind fun b1=>
 if b1=true then
  some ([]:List Int)
 else
  (pz1a fuel k_1 b_1 i_1).bind fun r1=>
  (pz22 fuel k_1 r1).bind fun r2=>
  some r2
def pz24(fuel:Nat)(av_1:List Int)(b_1:List Int)(i1:Int):Option (Ex Unit Bool):=
 (idx av_1 i1).bind fun x1=>
 (idx b_1 i1).bind fun x2=>
 if decide (x1≠x2)=true then
  some (.r (false))
 else
  some (.n ())
def pz25(fuel:Nat)(av_1:List Int)(b_1:List Int):Option Bool:=
 if decide ((av_1.length:Int)≠(b_1.length:Int))=true then
  some false
 else
  bindE (toE 0 (av_1.length:Int) (fun i _=>pz24 fuel av_1 b_1 i) ()) (fun _=>
  some true) some
def pz26(fuel:Nat):Option Bool:=
 (pz5 fuel 17 1).bind fun r1=>
 (pz6 fuel 3 17).bind fun r2=>
 (pz7 fuel ([(⟨#[98]⟩:ByteArray),(⟨#[99]⟩:ByteArray)]:List ByteArray) 17).bind fun r3=>
 (pz6 fuel 2 17).bind fun r4=>
 (pz7 fuel ([(⟨#[99]⟩:ByteArray)]:List ByteArray) 17).bind fun r5=>
 (pz5 fuel 17 2).bind fun r6=>
 (pz1r fuel (⟨false,(⟨#[]⟩:ByteArray),([(⟨1,0⟩:Rg),(⟨2,0⟩:Rg),(⟨3,0⟩:Rg)]:List Rg),([r1]:List Opd),([(⟨(⟨#[97]⟩:ByteArray),false,([]:List Opd),([r2,r3]:List Ins)⟩:Bl),(⟨(⟨#[98]⟩:ByteArray),false,([]:List Opd),([r4,r5]:List Ins)⟩:Bl),(⟨(⟨#[99]⟩:ByteArray),false,([]:List Opd),([(⟨23,(⟨0,0,0,0⟩:Opd),([r6]:List Opd),(⟨#[]⟩:ByteArray),0,([]:List ByteArray),([]:List Int)⟩:Ins)]:List Ins)⟩:Bl)]:List Bl)⟩:Fnc)).bind fun r7=>
 (pz1v fuel r7).bind fun(r8,r9,r10,r11)=>
 (pz23 fuel r7 2 0).bind fun r12=>
 (pz25 fuel r12 ([1,3]:List Int)).bind fun r13=>
 (if r13=true then(pz23 fuel r7 1 1).bind fun r14=>
 (pz25 fuel r14 ([1,2,3]:List Int)).bind fun r15=>
 some r15 else some false).bind fun b1=>
 some ((((b1&&(decide (r8=2)))&&(decide (r9=0)))&&(decide (r10=2)))&&r11)
def pz27(fuel:Nat)(f_1:Fnc)(v_1:Int)(i1:Int):Option (Ex Unit Bool):=
 (idx f_1.regs i1).bind fun x1=>
 if decide (x1.id=v_1)=true then
  some (.r (true))
 else
  some (.n ())
def pz28(fuel:Nat)(f_1:Fnc)(v_1:Int):Option Bool:=
 bindE (toE 0 (f_1.regs.length:Int) (fun i _=>pz27 fuel f_1 v_1 i) ()) (fun _=>
 some false) some
def pz29(fuel:Nat)(f_1:Fnc)(label_1:ByteArray)(i1:Int):Option (Ex Unit Int):=
 (idx f_1.blocks i1).bind fun x1=>
 if decide (x1.label=label_1)=true then
  some (.r (i1))
 else
  some (.n ())
def pz2a(fuel:Nat)(f_1:Fnc)(label_1:ByteArray):Option Int:=
 bindE (toE 0 (f_1.blocks.length:Int) (fun i _=>pz29 fuel f_1 label_1 i) ()) (fun _=>
 some (-1)) some
def pz2b(fuel:Nat)(l_1:List Int)(nv_1:Int)(i1:Int):Option (Ex Unit Bool):=
 (idx l_1 i1).bind fun x1=>
 if decide (x1=nv_1)=true then
  some (.r (true))
 else
  some (.n ())
def pz2c(fuel:Nat)(l_1:List Int)(nv_1:Int):Option Bool:=
 bindE (toE 0 (l_1.length:Int) (fun i _=>pz2b fuel l_1 nv_1 i) ()) (fun _=>
 some false) some
def pz2d(fuel:Nat)(f_1:Fnc)(x4:Ins)(i2:Int)(l_2:List Int):Option ((List Int)):=
 (idx x4.labels i2).bind fun x5=>
 (pz2a fuel f_1 x5).bind fun r1=>
 (if(decide (0≤r1))=true then(pz2c fuel l_2 r1).bind fun r2=>
 some (!r2) else some false).bind fun b3=>
 if b3=true then
  (app l_2 ([r1]:List Int)).bind fun l1=>
  some l1
 else
  some l_2
def pz2e(fuel:Nat)(f_1:Fnc)(i1:Int)(out_1:List (List Int)):Option ((List (List Int))):=
 (idx f_1.blocks i1).bind fun x1=>
 ((if(decide (0<(x1.code.length:Int)))=true then(idx x1.code (IntKind.wrap .i64 ((x1.code.length:Int)-1))).bind fun x2=>
 some (decide (20≤x2.op)) else some false).bind fun b1=>
 (if b1=true then(idx x1.code (IntKind.wrap .i64 ((x1.code.length:Int)-1))).bind fun x3=>
 some (decide (x3.op≤23)) else some false).bind fun b2=>
 if b2=true then
  (idx x1.code (IntKind.wrap .i64 ((x1.code.length:Int)-1))).bind fun x4=>
  (toN 0 (x4.labels.length:Int) (fun i s=>pz2d fuel f_1 x4 i s) ([]:List Int)).bind fun l_3=>
  some l_3
 else
  some ([]:List Int):Option ((List Int))).bind fun l_1=>
 (app out_1 ([l_1]:List (List Int))).bind fun l2=>
 some l2
def pz2f(fuel:Nat)(f_1:Fnc):Option ((List (List Int))):=
 (toN 0 (f_1.blocks.length:Int) (fun i s=>pz2e fuel f_1 i s) ([]:List (List Int))).bind fun out_2=>
 some out_2
def pz2g(fuel:Nat)(f_1:Fnc)(b_1:Int)(v_1:Int)(i1:Int):Option (Ex Unit Bool):=
 (idx f_1.blocks b_1).bind fun x1=>
 (idx x1.code i1).bind fun x2=>
 if((decide (x2.dst.kind=1))&&(decide (x2.dst.n=v_1)))=true then
  some (.r (true))
 else
  some (.n ())
def pz2h(fuel:Nat)(f_1:Fnc)(b_1:Int)(nv_1:Int)(v_1:Int):Option Bool:=
 bindE (toE 0 nv_1 (fun i _=>pz2g fuel f_1 b_1 v_1 i) ()) (fun _=>
 some false) some
def pz2i(fuel:Nat)(f_1:Fnc)(v_1:Int)(i1:Int)(out_1:List Bool):Option ((List Bool)):=
 (idx f_1.params i1).bind fun x2=>
 if((decide (x2.kind=1))&&(decide (x2.n=v_1)))=true then
  (idx out_1 0).bind fun x3=>
  (setI out_1 0 false).bind fun l3=>
  some l3
 else
  some out_1
def pz2j(fuel:Nat)(x6:List Int)(i4:Int)(out_8:List Bool):Option ((List Bool)):=
 (idx x6 i4).bind fun x7=>
 (idx out_8 x7).bind fun x8=>
 (setI out_8 x7 true).bind fun l4=>
 some l4
def pz2k(fuel:Nat)(f_1:Fnc)(v_1:Int)(r1:List (List Int))(out_5:List Bool)(b_1:Int):Option (Ex ((List Bool)×Int) (Ex ((List Bool)×Int) ((List Bool)))):=
 if decide (b_1<(out_5.length:Int))=true then
  ((idx out_5 b_1).bind fun x4=>
  (if(!x4)=true then some true else(idx f_1.blocks b_1).bind fun x5=>
  (pz2h fuel f_1 b_1 (x5.code.length:Int) v_1).bind fun r2=>
  some r2).bind fun b1=>
  if b1=true then
   some out_5
  else
   (idx r1 b_1).bind fun x6=>
   (toN 0 (x6.length:Int) (fun i s=>pz2j fuel x6 i s) out_5).bind fun out_9=>
   some out_9:Option ((List Bool))).bind fun out_7=>
  some (.n (out_7,IntKind.wrap .i64 (b_1+1)))
 else
  some (.b (out_5,b_1))
def pz2l(fuel:Nat)(f_1:Fnc)(v_1:Int)(r1:List (List Int))(out_3:List Bool)(nv_1:Int):Option (Ex ((List Bool)×Int) ((List Bool))):=
 if decide (nv_1<(out_3.length:Int))=true then
  bindE (loopE fuel (fun s=>pz2k fuel f_1 v_1 r1 s.1 s.2) (out_3,0)) (fun(out_6,b_2)=>
  some (.n (out_6,IntKind.wrap .i64 (nv_1+1)))) some
 else
  some (.b (out_3,nv_1))
def pz2m(fuel:Nat)(f_1:Fnc)(v_1:Int):Option ((List Bool)):=
 (mk (f_1.blocks.length:Int) (false:Bool)).bind fun l1=>
 if decide ((l1.length:Int)=0)=true then
  some l1
 else
  (idx l1 0).bind fun x1=>
  (setI l1 0 true).bind fun l2=>
  (toN 0 (f_1.params.length:Int) (fun i s=>pz2i fuel f_1 v_1 i s) l2).bind fun out_2=>
  (pz2f fuel f_1).bind fun r1=>
  bindE (loopE fuel (fun s=>pz2l fuel f_1 v_1 r1 s.1 s.2) (out_2,0)) (fun(out_4,nv_2)=>
  some out_4) some
def pz2n(fuel:Nat)(f_1:Fnc)(i1:Int)(i2:Int)(x2:Ins)(i3:Int):Option (Ex Unit (Ex Unit (Ex Unit (Int×Int×Int)))):=
 (idx x2.args i3).bind fun x3=>
 (if(decide (x3.kind=1))=true then(pz28 fuel f_1 x3.n).bind fun r1=>
 (if r1=true then(pz2m fuel f_1 x3.n).bind fun r2=>
 (idx r2 i1).bind fun x4=>
 (if(!x4)=true then some true else(pz2h fuel f_1 i1 i2 x3.n).bind fun r3=>
 some r3).bind fun b1=>
 some b1 else some false).bind fun b2=>
 some (!b2) else some false).bind fun b3=>
 if b3=true then
  some (.r (.r (.r ((i1,i2,x3.n)))))
 else
  some (.n ())
def pz2o(fuel:Nat)(f_1:Fnc)(i1:Int)(x1:Bl)(i2:Int):Option (Ex Unit (Ex Unit (Int×Int×Int))):=
 (idx x1.code i2).bind fun x2=>
 bindE (toE 0 (x2.args.length:Int) (fun i _=>pz2n fuel f_1 i1 i2 x2 i) ()) (fun _=>
 some (.n ())) some
def pz2p(fuel:Nat)(f_1:Fnc)(i1:Int):Option (Ex Unit (Int×Int×Int)):=
 (idx f_1.blocks i1).bind fun x1=>
 bindE (toE 0 (x1.code.length:Int) (fun i _=>pz2o fuel f_1 i1 x1 i) ()) (fun _=>
 some (.n ())) some
def pz2q(fuel:Nat)(f_1:Fnc):Option (Int×Int×Int):=
 bindE (toE 0 (f_1.blocks.length:Int) (fun i _=>pz2p fuel f_1 i) ()) (fun _=>
 some ((-1),(-1),(-1))) some
def pz2r(fuel:Nat)(f_1:Fnc)(b_1:Int)(i_1:Int)(v_1:Int):Option Bool:=
 (pz28 fuel f_1 v_1).bind fun r1=>
 (if r1=true then(pz2m fuel f_1 v_1).bind fun r2=>
 (idx r2 b_1).bind fun x1=>
 (if(!x1)=true then some true else(pz2h fuel f_1 b_1 i_1 v_1).bind fun r3=>
 some r3).bind fun b1=>
 some b1 else some false).bind fun b2=>
 some b2
def pz2s(fuel:Nat)(f_1:Fnc)(b_1:Int)(i_1:Int)(r11:List Int)(i1:Int):Option (Ex Unit Bool):=
 (idx f_1.regs i1).bind fun x2=>
 (pz2c fuel r11 x2.id).bind fun r13=>
 (pz2r fuel f_1 b_1 i_1 x2.id).bind fun r14=>
 if(r13 !=r14)=true then
  some (.r (false))
 else
  some (.n ())
def pz2t(fuel:Nat)(f_1:Fnc)(r11:List Int)(i2:Int):Option (Ex Unit Bool):=
 (idx r11 i2).bind fun x3=>
 (pz28 fuel f_1 x3).bind fun r15=>
 (if(!r15)=true then some true else(if(decide (0<i2))=true then(idx r11 (IntKind.wrap .i64 (i2-1))).bind fun x4=>
 some (decide (x3≤x4)) else some false).bind fun b3=>
 some b3).bind fun b4=>
 if b4=true then
  some (.r (false))
 else
  some (.n ())
def pz2u(fuel:Nat)(f_1:Fnc)(b_1:Int)(i_1:Int):Option Bool:=
 (pz3 fuel f_1).bind fun r1=>
 if((r1||(decide (20<(f_1.blocks.length:Int))))||(decide (30<(f_1.regs.length:Int))))=true then
  (pz26 fuel).bind fun r2=>
  some r2
 else
  (pz1r fuel f_1).bind fun r3=>
  (pz1v fuel r3).bind fun(r4,r5,r6,r7)=>
  (pz2q fuel f_1).bind fun(r8,r9,r10)=>
  if((r7 !=(decide (0≤r8)))||(r7&&(((decide (r4≠r8))||(decide (r5≠r9)))||(decide (r6≠r10)))))=true then
   some false
  else
   (pz23 fuel r3 b_1 i_1).bind fun r11=>
   (if(((decide (b_1<0))||(decide ((f_1.blocks.length:Int)≤b_1)))||(decide (i_1<0)))=true then some true else(idx f_1.blocks b_1).bind fun x1=>
   some (decide ((x1.code.length:Int)<i_1))).bind fun b1=>
   if b1=true then
    (if(decide ((r11.length:Int)=0))=true then(pz26 fuel).bind fun r12=>
    some r12 else some false).bind fun b2=>
    some b2
   else
    bindE (toE 0 (f_1.regs.length:Int) (fun i _=>pz2s fuel f_1 b_1 i_1 r11 i) ()) (fun _=>
    bindE (toE 0 (r11.length:Int) (fun i _=>pz2t fuel f_1 r11 i) ()) (fun _=>
    (pz26 fuel).bind fun r16=>
    some r16) some) some
end Go.Proofs.YtjjdblcinoikeaaDoor.PL
