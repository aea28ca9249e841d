/- Functions of the program as pure ones. Printed by tq.py. -/
import Derived.Test.YtoojnagdenoknaaPD
import Derived.Test.YtoojnagdenoknaaPM
set_option linter.unusedSimpArgs false
set_option linter.unusedSectionVars false
set_option linter.unnecessarySimpa false
set_option linter.unusedVariables false
namespace Go.Proofs.Ytoojnagdenoknaa.PL
open Go
def pz0(fuel:Nat)(l_1:List ByteArray):Option ((List Ins)):=
 some ([(⟨21,(⟨0,0,0,0⟩:Opd),([]:List Opd),(⟨#[]⟩:ByteArray),0,l_1,([]:List Int)⟩:Ins)]:List Ins)
def pz1(fuel:Nat)(op_1:Int):Option Bool:=
 some ((decide (20≤op_1))&&(decide (op_1≤23)))
def pz2(fuel:Nat)(b_1:Bl):Option (Ins×Bool):=
 if decide ((b_1.code.length:Int)=0)=true then
  some ((⟨0,(⟨0,0,0,0⟩:Opd),[],(⟨#[]⟩:ByteArray),0,[],[]⟩:Ins),false)
 else
  (idx b_1.code (IntKind.wrap .i64 ((b_1.code.length:Int)-1))).bind fun x1=>
  (pz1 fuel x1.op).bind fun r1=>
  some (x1,r1)
def pz3(fuel:Nat)(b_1:Bl)(p_1:ByteArray):Option Bool:=
 some (decide (b_1.label=p_1))
def pz4(fuel:Nat)(s_1:List Bl)(w1:ByteArray)(x_1:Int):Option (Ex Int Int):=
 if decide (x_1<(s_1.length:Int))=true then
  (idx s_1 x_1).bind fun x1=>
  (pz3 fuel x1 w1).bind fun r1=>
  if r1=true then
   some (.r (x_1))
  else
   some (.n (IntKind.wrap .i64 (x_1+1)))
 else
  some (.b x_1)
def pz5(fuel:Nat)(s_1:List Bl)(w1:ByteArray):Option Int:=
 bindE (loopE fuel (fun s=>pz4 fuel s_1 w1 s) 0) (fun x_2=>
 some (-1)) some
def pz6(fuel:Nat)(f_1:Fnc)(label_1:ByteArray):Option Int:=
 (pz5 fuel f_1.blocks label_1).bind fun r1=>
 some r1
def pz7(fuel:Nat)(s_1:List Int)(v_1:Int)(x_1:Int):Option (Ex Int Int):=
 if decide (x_1<(s_1.length:Int))=true then
  (idx s_1 x_1).bind fun x1=>
  if decide (v_1=x1)=true then
   some (.r (x_1))
  else
   some (.n (IntKind.wrap .i64 (x_1+1)))
 else
  some (.b x_1)
def pz8(fuel:Nat)(s_1:List Int)(v_1:Int):Option Int:=
 bindE (loopE fuel (fun s=>pz7 fuel s_1 v_1 s) 0) (fun x_2=>
 some (-1)) some
def pz9(fuel:Nat)(s_1:List Int)(v_1:Int):Option Bool:=
 (pz8 fuel s_1 v_1).bind fun r1=>
 some (decide (0≤r1))
def pza(fuel:Nat)(f_1:Fnc)(x_1:Int)(r1:Ins)(c7:List (List Int))(c8:List (List Int))(x_3:Int):Option (Ex ((List (List Int))×(List (List Int))×Int) ((List (List Int))×(List (List Int)))):=
 if decide (x_3<(r1.labels.length:Int))=true then
  ((idx r1.labels x_3).bind fun x2=>
  (pz6 fuel f_1 x2).bind fun r3=>
  (if(decide (0≤r3))=true then(idx c7 x_1).bind fun x3=>
  (pz9 fuel x3 r3).bind fun r5=>
  some (!r5) else some false).bind fun b1=>
  if b1=true then
   (idx c7 x_1).bind fun x4=>
   (app x4 ([r3]:List Int)).bind fun l3=>
   (setI c7 x_1 l3).bind fun l4=>
   (idx c8 r3).bind fun x5=>
   (app x5 ([x_1]:List Int)).bind fun l5=>
   (setI c8 r3 l5).bind fun l6=>
   some (l4,l6)
  else
   some (c7,c8):Option ((List (List Int))×(List (List Int)))).bind fun(c11,c12)=>
  some (.n (c11,c12,IntKind.wrap .i64 (x_3+1)))
 else
  some (.b (c7,c8,x_3))
def pzb(fuel:Nat)(f_1:Fnc)(x_1:Int)(c1:List (List Int))(c2:List (List Int)):Option (Ex (Int×(List (List Int))×(List (List Int))) zL):=
 if decide (x_1<(f_1.blocks.length:Int))=true then
  ((idx f_1.blocks x_1).bind fun x1=>
  (pz2 fuel x1).bind fun(r1,r2)=>
  if(!r2)=true then
   some (c1,c2)
  else
   bindE (loopE fuel (fun s=>pza fuel f_1 x_1 r1 s.1 s.2.1 s.2.2) (c1,c2,0)) (fun(c9,c10,x_4)=>
   some (c9,c10)) some:Option ((List (List Int))×(List (List Int)))).bind fun(c5,c6)=>
  some (.n (IntKind.wrap .i64 (x_1+1),c5,c6))
 else
  some (.b (x_1,c1,c2))
def pzc(fuel:Nat)(f_1:Fnc):Option zL:=
 (mk (f_1.blocks.length:Int) ([]:List Int)).bind fun l1=>
 (mk (f_1.blocks.length:Int) ([]:List Int)).bind fun l2=>
 bindE (loopE fuel (fun s=>pzb fuel f_1 s.1 s.2.1 s.2.2) (0,l1,l2)) (fun(x_2,c3,c4)=>
 some (⟨c3,c4⟩:zL)) some
def pzd(fuel:Nat)(g_1:zL):Option Int:=
 some (g_1.succ.length:Int)
def pze(fuel:Nat)(nv_1:Int):Option zD:=
 (mk (IntKind.wrap .i64 (Int.tdiv (IntKind.wrap .i64 ((IntKind.wrap .i64 ((if 0>nv_1 then 0 else nv_1)+64))-1)) 64)) (0:Int)).bind fun l1=>
 some (⟨(if 0>nv_1 then 0 else nv_1),l1⟩:zD)
def pzf(fuel:Nat)(s_1:zD)(i_1:Int):Option Bool:=
 some ((decide (0≤i_1))&&(decide (i_1<s_1.n)))
def pzg(fuel:Nat)(s_1:zD)(i_1:Int):Option Bool:=
 (pzf fuel s_1 i_1).bind fun r1=>
 (if r1=true then(idx s_1.words (IntKind.wrap .i64 (Int.tdiv i_1 64))).bind fun x1=>
 (shr .u64 x1 (Int.tmod i_1 64)).bind fun x2=>
 some (decide ((band .u64 x2 1)=1)) else some false).bind fun b1=>
 some b1
def pzh(fuel:Nat)(s_1:zD)(i_1:Int):Option (Bool×zD):=
 (pzf fuel s_1 i_1).bind fun r1=>
 (if(!r1)=true then some true else(pzg fuel s_1 i_1).bind fun r2=>
 some r2).bind fun b1=>
 if b1=true then
  some (false,s_1)
 else
  (idx s_1.words (IntKind.wrap .i64 (Int.tdiv i_1 64))).bind fun x1=>
  (shl .u64 1 (Int.tmod i_1 64)).bind fun x2=>
  (setI s_1.words (IntKind.wrap .i64 (Int.tdiv i_1 64)) (bor .u64 x1 x2)).bind fun l1=>
  some (true,(⟨s_1.n,l1⟩:zD))
def pzi(fuel:Nat)(i_1:Int)(p_1:zD)(p_2:List (A2 Int)):Option (zD×(List (A2 Int))):=
 (pzh fuel p_1 i_1).bind fun(r1,m1)=>
 if r1=true then
  (app p_2 ([(⟨i_1,0⟩:A2 Int)]:List (A2 Int))).bind fun l1=>
  some (m1,l1)
 else
  some (m1,p_2)
def pzj(fuel:Nat)(g_1:zL)(out_1:List Int)(steps_1:List (A2 Int))(c1:zD):Option (Ex ((List Int)×(List (A2 Int))×zD) ((List Int))):=
 if decide (0<(steps_1.length:Int))=true then
  (idx steps_1 (IntKind.wrap .i64 ((steps_1.length:Int)-1))).bind fun x1=>
  (idx g_1.succ x1.a0).bind fun x2=>
  if decide (x1.a1=(x2.length:Int))=true then
   (sli steps_1 0 (IntKind.wrap .i64 ((steps_1.length:Int)-1))).bind fun l1=>
   (app out_1 ([x1.a0]:List Int)).bind fun l2=>
   some (.n (l2,l1,c1))
  else
   (setI steps_1 (IntKind.wrap .i64 ((steps_1.length:Int)-1)) (⟨x1.a0,IntKind.wrap .i64 (x1.a1+1)⟩:A2 Int)).bind fun l3=>
   (idx x2 x1.a1).bind fun x3=>
   (pzi fuel x3 c1 l3).bind fun(m4,m5)=>
   some (.n (out_1,m5,m4))
 else
  some (.b (out_1,steps_1,c1))
def pzk(fuel:Nat)(g_1:zL):Option ((List Int)):=
 (pzd fuel g_1).bind fun r1=>
 (pze fuel r1).bind fun r2=>
 (pzi fuel 0 r2 ([]:List (A2 Int))).bind fun(m1,m2)=>
 bindE (loopE fuel (fun s=>pzj fuel g_1 s.1 s.2.1 s.2.2) (([]:List Int),m2,m1)) (fun(out_2,steps_2,c2)=>
 some out_2) some
def pzl(fuel:Nat)(s_2:List Int)(i_1:Int)(j_1:Int):Option (Ex ((List Int)×Int×Int) ((List Int))):=
 if decide (i_1<j_1)=true then
  (idx s_2 j_1).bind fun x1=>
  (idx s_2 i_1).bind fun x2=>
  (setI s_2 i_1 x1).bind fun l1=>
  (idx l1 j_1).bind fun x3=>
  (setI l1 j_1 x2).bind fun l2=>
  some (.n (l2,IntKind.wrap .i64 (i_1+1),IntKind.wrap .i64 (j_1-1)))
 else
  some (.b (s_2,i_1,j_1))
def pzm(fuel:Nat)(s_1:List Int):Option ((List Int)):=
 bindE (loopE fuel (fun s=>pzl fuel s.1 s.2.1 s.2.2) (s_1,0,IntKind.wrap .i64 ((s_1.length:Int)-1))) (fun(s_3,i_2,j_2)=>
 some s_3) some
def pzn(fuel:Nat)(g_1:zL):Option ((List Int)):=
 (pzd fuel g_1).bind fun r1=>
 if decide (r1=0)=true then
  some ([]:List Int)
 else
  (pzk fuel g_1).bind fun r2=>
  (pzm fuel r2).bind fun m1=>
  some m1
def pzo(fuel:Nat)(s:List Int):Option (List Int):=app [] s
def pzp(fuel:Nat)(g_1:zL)(i_1:Int)(which_1:Int):Option ((List Int)):=
 (if(decide (i_1<0))=true then some true else(pzd fuel g_1).bind fun r1=>
 some (decide (r1≤i_1))).bind fun b1=>
 if b1=true then
  some ([]:List Int)
 else
  (ix2 which_1).bind fun c1=>
  (idx ((⟨g_1.succ,g_1.pred⟩:A2 (List (List Int))).at c1) i_1).bind fun x1=>
  (pzo fuel x1).bind fun r2=>
  some r2
def pzq(fuel:Nat)(g_1:zL)(i_1:Int):Option ((List Int)):=
 (pzp fuel g_1 i_1 1).bind fun r1=>
 some r1
def pzr(fuel:Nat)(t_1:dom_Tree)(b_2:Int)(av_4:Int):Option (Ex Int (Ex (Int×Int) Int)):=
 (idx t_1.order av_4).bind fun x1=>
 (idx t_1.order b_2).bind fun x2=>
 if decide (x2<x1)=true then
  (idx t_1.idom av_4).bind fun x3=>
  some (.n x3)
 else
  some (.b av_4)
def pzs(fuel:Nat)(t_1:dom_Tree)(av_5:Int)(b_4:Int):Option (Ex Int (Ex (Int×Int) Int)):=
 (idx t_1.order b_4).bind fun x4=>
 (idx t_1.order av_5).bind fun x5=>
 if decide (x5<x4)=true then
  (idx t_1.idom b_4).bind fun x6=>
  some (.n x6)
 else
  some (.b b_4)
def pzt(fuel:Nat)(t_1:dom_Tree)(av_2:Int)(b_2:Int):Option (Ex (Int×Int) Int):=
 if decide (av_2≠b_2)=true then
  bindE (loopE fuel (fun s=>pzr fuel t_1 b_2 s) av_2) (fun av_5=>
  bindE (loopE fuel (fun s=>pzs fuel t_1 av_5 s) b_2) (fun b_5=>
  some (.n (av_5,b_5))) some) some
 else
  some (.b (av_2,b_2))
def pzu(fuel:Nat)(t_1:dom_Tree)(av_1:Int)(b_1:Int):Option Int:=
 bindE (loopE fuel (fun s=>pzt fuel t_1 s.1 s.2) (av_1,b_1)) (fun(av_3,b_3)=>
 some av_3) some
def pzv(fuel:Nat)(t_1:dom_Tree)(c2:List Int)(r1:List Int)(best_1:Int)(x_3:Int):Option (Ex (Int×Int) ((List Int)×Bool)):=
 if decide (x_3<(r1.length:Int))=true then
  ((idx r1 x_3).bind fun x2=>
  (idx t_1.order x2).bind fun x3=>
  (if(decide (x3=(-1)))=true then some true else(idx c2 x2).bind fun x4=>
  some (decide (x4=(-1)))).bind fun b1=>
  if b1=true then
   some best_1
  else
   if decide (best_1=(-1))=true then
    some x2
   else
    (pzu fuel (⟨c2,t_1.order⟩:dom_Tree) best_1 x2).bind fun r2=>
    some r2:Option Int).bind fun best_3=>
  some (.n (best_3,IntKind.wrap .i64 (x_3+1)))
 else
  some (.b (best_1,x_3))
def pzw(fuel:Nat)(t_1:dom_Tree)(g_1:zL)(l_1:List Int)(c2:List Int)(x_1:Int)(changed_1:Bool):Option (Ex ((List Int)×Int×Bool) (Bool×dom_Tree)):=
 if decide (x_1<(l_1.length:Int))=true then
  ((idx l_1 x_1).bind fun x1=>
  (pzq fuel g_1 x1).bind fun r1=>
  bindE (loopE fuel (fun s=>pzv fuel t_1 c2 r1 s.1 s.2) ((-1),0)) (fun(best_2,x_4)=>
  (idx c2 x1).bind fun x5=>
  if decide (x5≠best_2)=true then
   (setI c2 x1 best_2).bind fun l1=>
   some (l1,true)
  else
   some (c2,changed_1)) some:Option ((List Int)×Bool)).bind fun(c4,changed_3)=>
  some (.n (c4,IntKind.wrap .i64 (x_1+1),changed_3))
 else
  some (.b (c2,x_1,changed_1))
def pzx(fuel:Nat)(t_1:dom_Tree)(g_1:zL)(l_1:List Int):Option (Bool×dom_Tree):=
 bindE (loopE fuel (fun s=>pzw fuel t_1 g_1 l_1 s.1 s.2.1 s.2.2) (t_1.idom,0,false)) (fun(c3,x_2,changed_2)=>
 some (changed_2,(⟨c3,t_1.order⟩:dom_Tree))) some
def pzy(fuel:Nat)(l1:List Int)(x_1:Int)(c1:List Int)(c2:List Int):Option (Ex (Int×(List Int)×(List Int)) dom_Tree):=
 if decide (x_1<(l1.length:Int))=true then
  (idx c1 x_1).bind fun x1=>
  (setI c1 x_1 (-1)).bind fun l3=>
  (idx c2 x_1).bind fun x2=>
  (setI c2 x_1 (-1)).bind fun l4=>
  some (.n (IntKind.wrap .i64 (x_1+1),l3,l4))
 else
  some (.b (x_1,c1,c2))
def pzz(fuel:Nat)(r2:List Int)(c5:List Int)(x_3:Int):Option (Ex ((List Int)×Int) dom_Tree):=
 if decide (x_3<(r2.length:Int))=true then
  (idx r2 x_3).bind fun x3=>
  (idx c5 x3).bind fun x4=>
  (setI c5 x3 x_3).bind fun l5=>
  some (.n (l5,IntKind.wrap .i64 (x_3+1)))
 else
  some (.b (c5,x_3))
def pz10(fuel:Nat)(g_1:zL)(r2:List Int)(t_1:dom_Tree):Option (Ex dom_Tree dom_Tree):=
 (sli r2 1 (r2.length:Int)).bind fun l7=>
 (pzx fuel t_1 g_1 l7).bind fun(r3,m4)=>
 if r3=true then
  some (.n m4)
 else
  some (.b m4)
def pz11(fuel:Nat)(g_1:zL):Option dom_Tree:=
 (pzd fuel g_1).bind fun r1=>
 (mk r1 (0:Int)).bind fun l1=>
 (mk r1 (0:Int)).bind fun l2=>
 bindE (loopE fuel (fun s=>pzy fuel l1 s.1 s.2.1 s.2.2) (0,l1,l2)) (fun(x_2,c3,c4)=>
 (pzn fuel g_1).bind fun r2=>
 bindE (loopE fuel (fun s=>pzz fuel r2 s.1 s.2) (c4,0)) (fun(c6,x_4)=>
 if decide ((r2.length:Int)=0)=true then
  some (⟨c3,c6⟩:dom_Tree)
 else
  (idx c3 0).bind fun x5=>
  (setI c3 0 0).bind fun l6=>
  bindE (loopE fuel (fun s=>pz10 fuel g_1 r2 s) (⟨l6,c6⟩:dom_Tree)) (fun t_2=>
  (idx t_2.idom 0).bind fun x6=>
  (setI t_2.idom 0 (-1)).bind fun l8=>
  some (⟨l8,t_2.order⟩:dom_Tree)) some) some) some
def pz12(fuel:Nat)(g_1:zL)(i_1:Int):Option ((List Int)):=
 (pzp fuel g_1 i_1 0).bind fun r1=>
 some r1
def pz13(fuel:Nat)(l:List Int):Option (List Int):=if l.length≤4294967296 then some (isort l) else none
def pz14(fuel:Nat)(x_1:Int)(m2:List Int)(x_3:Int)(out_3:List (A2 Int)):Option (Ex (Int×(List (A2 Int))) (Ex (Int×(List (A2 Int))) ((List (A2 Int))))):=
 if decide (x_3<(m2.length:Int))=true then
  (idx m2 x_3).bind fun x1=>
  (app out_3 ([(⟨x_1,x1⟩:A2 Int)]:List (A2 Int))).bind fun l1=>
  some (.n (IntKind.wrap .i64 (x_3+1),l1))
 else
  some (.b (x_3,out_3))
def pz15(fuel:Nat)(g_1:zL)(r1:Int)(x_1:Int)(out_1:List (A2 Int)):Option (Ex (Int×(List (A2 Int))) ((List (A2 Int)))):=
 if decide (x_1<r1)=true then
  (pz12 fuel g_1 x_1).bind fun r2=>
  (pz13 fuel r2).bind fun m2=>
  bindE (loopE fuel (fun s=>pz14 fuel x_1 m2 s.1 s.2) (0,out_1)) (fun(x_4,out_4)=>
  some (.n (IntKind.wrap .i64 (x_1+1),out_4))) some
 else
  some (.b (x_1,out_1))
def pz16(fuel:Nat)(g_1:zL):Option ((List (A2 Int))):=
 (pzd fuel g_1).bind fun r1=>
 bindE (loopE fuel (fun s=>pz15 fuel g_1 r1 s.1 s.2) (0,([]:List (A2 Int)))) (fun(x_2,out_2)=>
 some out_2) some
def pz17(fuel:Nat)(t_1:dom_Tree)(i_1:Int):Option Bool:=
 (if((decide (0≤i_1))&&(decide (i_1<(t_1.order.length:Int))))=true then(idx t_1.order i_1).bind fun x1=>
 some (decide (x1≠(-1))) else some false).bind fun b1=>
 some b1
def pz18(fuel:Nat)(t_1:dom_Tree)(i_1:Int):Option Int:=
 (pz17 fuel t_1 i_1).bind fun r1=>
 if(!r1)=true then
  some (-1)
 else
  (idx t_1.idom i_1).bind fun x1=>
  some x1
def pz19(fuel:Nat)(t_1:dom_Tree)(i_2:Int)(out_1:List Int):Option (Ex (Int×(List Int)) ((List Int))):=
 (pz17 fuel t_1 i_2).bind fun r1=>
 if r1=true then
  (app out_1 ([i_2]:List Int)).bind fun l1=>
  (pz18 fuel t_1 i_2).bind fun r2=>
  some (.n (r2,l1))
 else
  some (.b (i_2,out_1))
def pz1a(fuel:Nat)(t_1:dom_Tree)(i_1:Int):Option ((List Int)):=
 bindE (loopE fuel (fun s=>pz19 fuel t_1 s.1 s.2) (i_1,([]:List Int))) (fun(i_3,out_2)=>
 some out_2) some
def pz1b(fuel:Nat)(t_1:dom_Tree)(av_1:Int)(b_1:Int):Option Bool:=
 (pz1a fuel t_1 b_1).bind fun r1=>
 (pz9 fuel r1 av_1).bind fun r2=>
 some r2
def pz1c(fuel:Nat)(l_1:List Int)(x_1:Int)(s_1:zD):Option (Ex (Int×zD) zD):=
 if decide (x_1<(l_1.length:Int))=true then
  (idx l_1 x_1).bind fun x1=>
  (pzh fuel s_1 x1).bind fun(r2,m2)=>
  some (.n (IntKind.wrap .i64 (x_1+1),m2))
 else
  some (.b (x_1,s_1))
def pz1d(fuel:Nat)(nv_1:Int)(l_1:List Int):Option zD:=
 (pze fuel nv_1).bind fun r1=>
 bindE (loopE fuel (fun s=>pz1c fuel l_1 s.1 s.2) (0,r1)) (fun(x_2,s_2)=>
 some s_2) some
def pz1e(fuel:Nat)(i_1:Int)(p_1:Int)(p_2:zD)(p_3:List Int):Option (zD×(List Int)):=
 (if(decide (i_1≠p_1))=true then(pzh fuel p_2 i_1).bind fun(r1,m1)=>
 some (r1,m1) else some (false,p_2)).bind fun(b1,c4)=>
 if b1=true then
  (app p_3 ([i_1]:List Int)).bind fun l1=>
  some (c4,l1)
 else
  some (c4,p_3)
def pz1f(fuel:Nat)(g_1:zL):Option zD:=
 (pzd fuel g_1).bind fun r1=>
 (pzn fuel g_1).bind fun r2=>
 (pz1d fuel r1 r2).bind fun r3=>
 some r3
def pz1g(fuel:Nat)(av_1:Int)(b_1:Int):Option Int:=
 some (band .u64 av_1 b_1)
def pz1h(fuel:Nat)(s_1:zD)(k_1:Int):Option Int:=
 if decide ((IntKind.wrap .i64 (s_1.n-(IntKind.wrap .i64 (k_1*64))))<64)=true then
  (shl .u64 1 (IntKind.wrap .i64 (s_1.n-(IntKind.wrap .i64 (k_1*64))))).bind fun x1=>
  some (IntKind.wrap .u64 (x1-1))
 else
  some 18446744073709551615
def pz1i(fuel:Nat)(without_1:Int)(r3:List Int)(x_1:Int)(out_3:zD)(wait_3:List Int):Option (Ex (Int×zD×(List Int)) (Ex (zD×(List Int)) zD)):=
 if decide (x_1<(r3.length:Int))=true then
  (idx r3 x_1).bind fun x2=>
  (pz1e fuel x2 without_1 out_3 wait_3).bind fun(m5,m6)=>
  some (.n (IntKind.wrap .i64 (x_1+1),m5,m6))
 else
  some (.b (x_1,out_3,wait_3))
def pz1j(fuel:Nat)(g_1:zL)(without_1:Int)(out_1:zD)(wait_1:List Int):Option (Ex (zD×(List Int)) zD):=
 if decide (0<(wait_1.length:Int))=true then
  (idx wait_1 (IntKind.wrap .i64 ((wait_1.length:Int)-1))).bind fun x1=>
  (sli wait_1 0 (IntKind.wrap .i64 ((wait_1.length:Int)-1))).bind fun l1=>
  (pzq fuel g_1 x1).bind fun r3=>
  bindE (loopE fuel (fun s=>pz1i fuel without_1 r3 s.1 s.2.1 s.2.2) (0,out_1,l1)) (fun(x_2,out_4,wait_4)=>
  some (.n (out_4,wait_4))) some
 else
  some (.b (out_1,wait_1))
def pz1k(fuel:Nat)(g_1:zL)(tov_1:Int)(without_1:Int):Option zD:=
 (pzd fuel g_1).bind fun r1=>
 (pze fuel r1).bind fun r2=>
 (pz1e fuel tov_1 without_1 r2 ([]:List Int)).bind fun(m1,m2)=>
 bindE (loopE fuel (fun s=>pz1j fuel g_1 without_1 s.1 s.2) (m1,m2)) (fun(out_2,wait_2)=>
 some out_2) some
def pz1l(fuel:Nat)(s_1:zD)(o_1:zD)(c2:List Int)(x_1:Int)(changed_1:Bool):Option (Ex ((List Int)×Int×Bool) (Bool×zD)):=
 if decide (x_1<(s_1.words.length:Int))=true then
  ((idx c2 x_1).bind fun x1=>
  (if decide (x_1<(o_1.words.length:Int))=true then
   (idx o_1.words x_1).bind fun x2=>
   some x2
  else
   some 0:Option Int).bind fun b_1=>
  (pz1g fuel x1 b_1).bind fun r1=>
  (pz1h fuel (⟨s_1.n,c2⟩:zD) x_1).bind fun r2=>
  (setI c2 x_1 (band .u64 r1 r2)).bind fun l1=>
  some (l1,(changed_1||(decide ((band .u64 r1 r2)≠x1)))):Option ((List Int)×Bool)).bind fun(c4,changed_3)=>
  some (.n (c4,IntKind.wrap .i64 (x_1+1),changed_3))
 else
  some (.b (c2,x_1,changed_1))
def pz1m(fuel:Nat)(s_1:zD)(o_1:zD):Option (Bool×zD):=
 bindE (loopE fuel (fun s=>pz1l fuel s_1 o_1 s.1 s.2.1 s.2.2) (s_1.words,0,false)) (fun(c3,x_2,changed_2)=>
 some (changed_2,(⟨s_1.n,c3⟩:zD))) some
def pz1n(fuel:Nat)(s_1:zD)(o_1:zD):Option (Bool×zD):=
 (pz1m fuel s_1 o_1).bind fun(r1,m1)=>
 some (r1,m1)
def pz1o(fuel:Nat)(av_1:Int)(b_1:Int):Option Int:=
 some (bor .u64 av_1 b_1)
def pz1p(fuel:Nat)(s_1:zD)(o_1:zD)(c3:List Int)(x_1:Int)(changed_1:Bool):Option (Ex ((List Int)×Int×Bool) (Bool×zD)):=
 if decide (x_1<(s_1.words.length:Int))=true then
  ((idx c3 x_1).bind fun x1=>
  (if decide (x_1<(o_1.words.length:Int))=true then
   (idx o_1.words x_1).bind fun x2=>
   some x2
  else
   some 0:Option Int).bind fun b_1=>
  (pz1o fuel x1 b_1).bind fun r1=>
  (pz1h fuel (⟨s_1.n,c3⟩:zD) x_1).bind fun r2=>
  (setI c3 x_1 (band .u64 r1 r2)).bind fun l1=>
  some (l1,(changed_1||(decide ((band .u64 r1 r2)≠x1)))):Option ((List Int)×Bool)).bind fun(c5,changed_3)=>
  some (.n (c5,IntKind.wrap .i64 (x_1+1),changed_3))
 else
  some (.b (c3,x_1,changed_1))
def pz1q(fuel:Nat)(s_1:zD)(o_1:zD):Option (Bool×zD):=
 bindE (loopE fuel (fun s=>pz1p fuel s_1 o_1 s.1 s.2.1 s.2.2) (s_1.words,0,false)) (fun(c4,x_2,changed_2)=>
 some (changed_2,(⟨s_1.n,c4⟩:zD))) some
def pz1r(fuel:Nat)(s_1:zD)(o_1:zD):Option (Bool×zD):=
 (pz1q fuel s_1 o_1).bind fun(r1,m1)=>
 some (r1,m1)
def pz1s(fuel:Nat)(g_1:zL)(r1:Int)(r2:dom_Tree)(r3:List (A2 Int))(x_1:Int)(c1:List (Int×zD)):Option (Ex (Int×(List (Int×zD))) za):=
 if decide (x_1<(r3.length:Int))=true then
  ((idx r3 x_1).bind fun x1=>
  (pz1b fuel r2 x1.a1 x1.a0).bind fun r4=>
  if(!r4)=true then
   some c1
  else
   ((some (mhas c1 x1.a1)).bind fun c5=>
   if(!c5)=true then
    (pz1d fuel r1 ([x1.a1]:List Int)).bind fun r5=>
    some (mset c1 x1.a1 r5)
   else
    some c1:Option ((List (Int×zD)))).bind fun c4=>
   (pz1k fuel g_1 x1.a0 x1.a1).bind fun r6=>
   (pz1f fuel g_1).bind fun r7=>
   (pz1n fuel r6 r7).bind fun(r8,m2)=>
   (mget c4 x1.a1).bind fun x2=>
   (pz1r fuel x2 m2).bind fun(r9,m3)=>
   some (mset c4 x1.a1 m3):Option ((List (Int×zD)))).bind fun c3=>
  some (.n (IntKind.wrap .i64 (x_1+1),c3))
 else
  some (.b (x_1,c1))
def pz1t(fuel:Nat)(g_1:zL):Option za:=
 (pzd fuel g_1).bind fun r1=>
 (pz11 fuel g_1).bind fun r2=>
 (pz16 fuel g_1).bind fun r3=>
 bindE (loopE fuel (fun s=>pz1s fuel g_1 r1 r2 r3 s.1 s.2) (0,([]:List (Int×zD)))) (fun(x_2,c2)=>
 some (⟨r1,c2⟩:za)) some
def pz1u(fuel:Nat)(m_1:List (Int×zD)):Option (((List (Int×zD)))):=
 some m_1
def pz1v(fuel:Nat)(w1:List (Int×zD)):Option (List Int):=if w1.length≤4294967296 then some (isort (w1.map (·.1))) else none
def pz1w(fuel:Nat)(l_1:za):Option ((List Int)):=
 (pz1u fuel l_1.body).bind fun r1=>
 (pz1v fuel r1).bind fun r2=>
 some r2
def pz1x(fuel:Nat)(av_1:List Int)(b_1:List Int)(i1:Int):Option (Ex Unit Bool):=
 (idx av_1 i1).bind fun x1=>
 (idx b_1 i1).bind fun x2=>
 if decide (x1≠x2)=true then
  some (.r (false))
 else
  some (.n ())
def pz1y(fuel:Nat)(av_1:List Int)(b_1:List Int):Option Bool:=
 if decide ((av_1.length:Int)≠(b_1.length:Int))=true then
  some false
 else
  bindE (toE 0 (av_1.length:Int) (fun i _=>pz1x fuel av_1 b_1 i) ()) (fun _=>
  some true) some
def pz1z(fuel:Nat)(l_1:za)(i_1:Int):Option Int:=(l_1.body.mapM fun x=>pzg fuel x.2 i_1).bind fun bs=>some (IntKind.wrap .i64 ((bs.filter id).length:Int))
def pz20(fuel:Nat)(l_1:za):Option Int:=
 some l_1.n
def pz21(fuel:Nat)(s:List Int):Option (List Int):=app [] s
def pz22(fuel:Nat)(s_1:zD):Option zD:=
 (pz21 fuel s_1.words).bind fun r1=>
 some (⟨s_1.n,r1⟩:zD)
def pz23(fuel:Nat)(l_1:za)(head_1:Int):Option zD:=
 (some (mhas l_1.body head_1)).bind fun c1=>
 if(!c1)=true then
  (pz20 fuel l_1).bind fun r1=>
  (pze fuel r1).bind fun r2=>
  some r2
 else
  (mget l_1.body head_1).bind fun x1=>
  (pz22 fuel x1).bind fun r3=>
  some r3
def pz24(fuel:Nat)(x_1:Int):Option Int:=
 (shr .u64 x_1 1).bind fun x1=>
 (shr .u64 (IntKind.wrap .u64 ((band .u64 x1 6148914691236517205)+(band .u64 x_1 6148914691236517205))) 2).bind fun x2=>
 (shr .u64 (IntKind.wrap .u64 ((band .u64 x2 3689348814741910323)+(band .u64 (IntKind.wrap .u64 ((band .u64 x1 6148914691236517205)+(band .u64 x_1 6148914691236517205))) 3689348814741910323))) 4).bind fun x3=>
 (shr .u64 (band .u64 (IntKind.wrap .u64 (x3+(IntKind.wrap .u64 ((band .u64 x2 3689348814741910323)+(band .u64 (IntKind.wrap .u64 ((band .u64 x1 6148914691236517205)+(band .u64 x_1 6148914691236517205))) 3689348814741910323))))) 1085102592571150095) 8).bind fun x4=>
 (shr .u64 (IntKind.wrap .u64 ((band .u64 (IntKind.wrap .u64 (x3+(IntKind.wrap .u64 ((band .u64 x2 3689348814741910323)+(band .u64 (IntKind.wrap .u64 ((band .u64 x1 6148914691236517205)+(band .u64 x_1 6148914691236517205))) 3689348814741910323))))) 1085102592571150095)+x4)) 16).bind fun x5=>
 (shr .u64 (IntKind.wrap .u64 ((IntKind.wrap .u64 ((band .u64 (IntKind.wrap .u64 (x3+(IntKind.wrap .u64 ((band .u64 x2 3689348814741910323)+(band .u64 (IntKind.wrap .u64 ((band .u64 x1 6148914691236517205)+(band .u64 x_1 6148914691236517205))) 3689348814741910323))))) 1085102592571150095)+x4))+x5)) 32).bind fun x6=>
 some (band .i64 (IntKind.wrap .i64 (IntKind.wrap .u64 ((IntKind.wrap .u64 ((IntKind.wrap .u64 ((band .u64 (IntKind.wrap .u64 (x3+(IntKind.wrap .u64 ((band .u64 x2 3689348814741910323)+(band .u64 (IntKind.wrap .u64 ((band .u64 x1 6148914691236517205)+(band .u64 x_1 6148914691236517205))) 3689348814741910323))))) 1085102592571150095)+x4))+x5))+x6))) 127)
def pz25(fuel:Nat)(s_1:zD)(x_1:Int)(nv_1:Int):Option (Ex (Int×Int) Int):=
 if decide (x_1<(s_1.words.length:Int))=true then
  (idx s_1.words x_1).bind fun x1=>
  (pz24 fuel x1).bind fun r1=>
  some (.n (IntKind.wrap .i64 (x_1+1),IntKind.wrap .i64 (nv_1+r1)))
 else
  some (.b (x_1,nv_1))
def pz26(fuel:Nat)(s_1:zD):Option Int:=
 bindE (loopE fuel (fun s=>pz25 fuel s_1 s.1 s.2) (0,0)) (fun(x_2,nv_2)=>
 some nv_2) some
def pz27(fuel:Nat)(l_1:za)(i_1:Int)(r1:List Int)(x_1:Int)(best_1:Int):Option (Ex (Int×Int) Int):=
 if decide (x_1<(r1.length:Int))=true then
  ((idx r1 x_1).bind fun x1=>
  (mget l_1.body x1).bind fun x2=>
  (pzg fuel x2 i_1).bind fun r2=>
  (if r2=true then(if(decide (best_1<0))=true then some true else(pz26 fuel x2).bind fun r3=>
  (mget l_1.body best_1).bind fun x3=>
  (pz26 fuel x3).bind fun r4=>
  some (decide (r3≤r4))).bind fun b1=>
  some b1 else some false).bind fun b2=>
  if b2=true then
   some x1
  else
   some best_1:Option Int).bind fun best_3=>
  some (.n (IntKind.wrap .i64 (x_1+1),best_3))
 else
  some (.b (x_1,best_1))
def pz28(fuel:Nat)(l_1:za)(i_1:Int):Option Int:=
 (pz1w fuel l_1).bind fun r1=>
 bindE (loopE fuel (fun s=>pz27 fuel l_1 i_1 r1 s.1 s.2) (0,(-1))) (fun(x_2,best_2)=>
 some best_2) some
def pz29(fuel:Nat):Option Bool:=
 (pz0 fuel ([(⟨#[98]⟩:ByteArray)]:List ByteArray)).bind fun r1=>
 (pz0 fuel ([(⟨#[99]⟩:ByteArray),(⟨#[101]⟩:ByteArray)]:List ByteArray)).bind fun r2=>
 (pz0 fuel ([(⟨#[99]⟩:ByteArray),(⟨#[100]⟩:ByteArray)]:List ByteArray)).bind fun r3=>
 (pz0 fuel ([(⟨#[98]⟩:ByteArray)]:List ByteArray)).bind fun r4=>
 (pzc fuel (⟨false,(⟨#[]⟩:ByteArray),[],[],([(⟨(⟨#[97]⟩:ByteArray),false,[],r1⟩:Bl),(⟨(⟨#[98]⟩:ByteArray),false,[],r2⟩:Bl),(⟨(⟨#[99]⟩:ByteArray),false,[],r3⟩:Bl),(⟨(⟨#[100]⟩:ByteArray),false,[],r4⟩:Bl),(⟨(⟨#[101]⟩:ByteArray),false,[],[]⟩:Bl)]:List Bl)⟩:Fnc)).bind fun r5=>
 (pz1t fuel r5).bind fun r6=>
 (pz1w fuel r6).bind fun r7=>
 (pz1y fuel r7 ([1,2]:List Int)).bind fun r8=>
 (if r8=true then(pz1z fuel r6 2).bind fun r9=>
 some (decide (r9=2)) else some false).bind fun b1=>
 (if b1=true then(pz1z fuel r6 3).bind fun r10=>
 some (decide (r10=1)) else some false).bind fun b2=>
 (if b2=true then(pz1z fuel r6 4).bind fun r11=>
 some (decide (r11=0)) else some false).bind fun b3=>
 (if b3=true then(pz23 fuel r6 1).bind fun r12=>
 (pz26 fuel r12).bind fun r13=>
 some (decide (r13=3)) else some false).bind fun b4=>
 (if b4=true then(pz28 fuel r6 2).bind fun r14=>
 some (decide (r14=2)) else some false).bind fun b5=>
 (if b5=true then(pz28 fuel r6 4).bind fun r15=>
 some (decide (r15=(-1))) else some false).bind fun b6=>
 (if b6=true then(pz20 fuel r6).bind fun r16=>
 some (decide (r16=5)) else some false).bind fun b7=>
 some b7
def pz2a(fuel:Nat)(f_1:Fnc)(label_1:ByteArray)(i1:Int):Option (Ex Unit Int):=
 (idx f_1.blocks i1).bind fun x1=>
 if decide (x1.label=label_1)=true then
  some (.r (i1))
 else
  some (.n ())
def pz2b(fuel:Nat)(f_1:Fnc)(label_1:ByteArray):Option Int:=
 bindE (toE 0 (f_1.blocks.length:Int) (fun i _=>pz2a fuel f_1 label_1 i) ()) (fun _=>
 some (-1)) some
def pz2c(fuel:Nat)(l_1:List Int)(nv_1:Int)(i1:Int):Option (Ex Unit Bool):=
 (idx l_1 i1).bind fun x1=>
 if decide (x1=nv_1)=true then
  some (.r (true))
 else
  some (.n ())
def pz2d(fuel:Nat)(l_1:List Int)(nv_1:Int):Option Bool:=
 bindE (toE 0 (l_1.length:Int) (fun i _=>pz2c fuel l_1 nv_1 i) ()) (fun _=>
 some false) some
def pz2e(fuel:Nat)(f_1:Fnc)(x4:Ins)(i2:Int)(l_2:List Int):Option ((List Int)):=
 (idx x4.labels i2).bind fun x5=>
 (pz2b fuel f_1 x5).bind fun r1=>
 (if(decide (0≤r1))=true then(pz2d fuel l_2 r1).bind fun r2=>
 some (!r2) else some false).bind fun b3=>
 if b3=true then
  (app l_2 ([r1]:List Int)).bind fun l1=>
  some l1
 else
  some l_2
def pz2f(fuel:Nat)(f_1:Fnc)(i1:Int)(out_1:List (List Int)):Option ((List (List Int))):=
 (idx f_1.blocks i1).bind fun x1=>
 ((if(decide (0<(x1.code.length:Int)))=true then(idx x1.code (IntKind.wrap .i64 ((x1.code.length:Int)-1))).bind fun x2=>
 some (decide (20≤x2.op)) else some false).bind fun b1=>
 (if b1=true then(idx x1.code (IntKind.wrap .i64 ((x1.code.length:Int)-1))).bind fun x3=>
 some (decide (x3.op≤23)) else some false).bind fun b2=>
 if b2=true then
  (idx x1.code (IntKind.wrap .i64 ((x1.code.length:Int)-1))).bind fun x4=>
  (toN 0 (x4.labels.length:Int) (fun i s=>pz2e fuel f_1 x4 i s) ([]:List Int)).bind fun l_3=>
  some l_3
 else
  some ([]:List Int):Option ((List Int))).bind fun l_1=>
 (app out_1 ([l_1]:List (List Int))).bind fun l2=>
 some l2
def pz2g(fuel:Nat)(f_1:Fnc):Option ((List (List Int))):=
 (toN 0 (f_1.blocks.length:Int) (fun i s=>pz2f fuel f_1 i s) ([]:List (List Int))).bind fun out_2=>
 some out_2
def pz2h(fuel:Nat)(succ_1:List (List Int))(without_1:Int)(i2:Int)(k_1:Int)(seen_5:List Bool):Option (Ex (Int×(List Bool)) ((List Bool))):=
 (idx seen_5 i2).bind fun x2=>
 (if x2=true then(idx succ_1 i2).bind fun x3=>
 some (decide (k_1<(x3.length:Int))) else some false).bind fun b1=>
 if b1=true then
  ((idx succ_1 i2).bind fun x4=>
  (idx x4 k_1).bind fun x5=>
  if decide (x5≠without_1)=true then
   (idx seen_5 x5).bind fun x6=>
   (setI seen_5 x5 true).bind fun l3=>
   some l3
  else
   some seen_5:Option ((List Bool))).bind fun seen_7=>
  some (.n (IntKind.wrap .i64 (k_1+1),seen_7))
 else
  some (.b (k_1,seen_5))
def pz2i(fuel:Nat)(succ_1:List (List Int))(without_1:Int)(i2:Int)(seen_3:List Bool):Option ((List Bool)):=
 bindE (loopE fuel (fun s=>pz2h fuel succ_1 without_1 i2 s.1 s.2) (0,seen_3)) (fun(k_2,seen_6)=>
 some seen_6) some
def pz2j(fuel:Nat)(succ_1:List (List Int))(without_1:Int)(i1:Int)(seen_1:List Bool):Option ((List Bool)):=
 (toN 0 (succ_1.length:Int) (fun i s=>pz2i fuel succ_1 without_1 i s) seen_1).bind fun seen_4=>
 some seen_4
def pz2k(fuel:Nat)(succ_1:List (List Int))(fromv_1:Int)(without_1:Int):Option ((List Bool)):=
 (mk (succ_1.length:Int) (false:Bool)).bind fun l1=>
 if(((decide (fromv_1<0))||(decide ((succ_1.length:Int)≤fromv_1)))||(decide (fromv_1=without_1)))=true then
  some l1
 else
  (idx l1 fromv_1).bind fun x1=>
  (setI l1 fromv_1 true).bind fun l2=>
  (toN 0 (succ_1.length:Int) (fun i s=>pz2j fuel succ_1 without_1 i s) l2).bind fun seen_2=>
  some seen_2
def pz2l(fuel:Nat)(d_1:Drf)(i1:Int)(nv_1:Int):Option Int:=
 (idx d_1.blocks i1).bind fun x1=>
 some (IntKind.wrap .i64 ((IntKind.wrap .i64 (nv_1+1))+(x1.code.length:Int)))
def pz2m(fuel:Nat)(d_1:Drf):Option Bool:=
 (toN 0 (d_1.blocks.length:Int) (fun i s=>pz2l fuel d_1 i s) 0).bind fun nv_2=>
 some ((decide (9<(d_1.blocks.length:Int)))||(decide (60<nv_2)))
def pz2n(fuel:Nat)(v_1:Int):Option Opd:=
 some (⟨1,0,v_1,0⟩:Opd)
def pz2o(fuel:Nat)(nv_1:Int):Option Opd:=
 some (⟨4,0,nv_1,0⟩:Opd)
def pz2p(fuel:Nat)(m_1:zF)(classv_1:Int)(k_1:Int):Option Opd:=
 (ix2 classv_1).bind fun c1=>
 (rem (IntKind.wrap .i64 k_1) ((m_1.ids.at c1).length:Int)).bind fun x1=>
 (idx (m_1.ids.at c1) x1).bind fun x2=>
 ((pz2d fuel m_1.has x2).bind fun r1=>
 if(!r1)=true then
  (idx (m_1.ids.at c1) 0).bind fun x3=>
  some x3
 else
  some x2:Option Int).bind fun v_1=>
 (pz2n fuel v_1).bind fun r2=>
 some r2
def pz2q(fuel:Nat)(i_1:Int):Option ByteArray:=
 if decide (i_1=0)=true then
  some (⟨#[101,110,116,114,121]⟩:ByteArray)
 else
  (bsli (⟨#[48,49,50,51,52,53,54,55,56,57]⟩:ByteArray) i_1 (IntKind.wrap .i64 (i_1+1))).bind fun s1=>
  (sadd (⟨#[98]⟩:ByteArray) s1).bind fun s2=>
  some s2
def pz2r(fuel:Nat)(k_1:Int)(nv_1:Int):Option ByteArray:=
 (rem (IntKind.wrap .i64 k_1) (IntKind.wrap .i64 (nv_1-1))).bind fun x1=>
 (pz2q fuel (IntKind.wrap .i64 (1+x1))).bind fun r1=>
 some r1
def pz2s(fuel:Nat)(m_1:zF)(classv_1:Int)(k_1:Int):Option (Opd×zF):=
 (ix2 classv_1).bind fun c2=>
 (rem (IntKind.wrap .i64 k_1) ((m_1.ids.at c2).length:Int)).bind fun x1=>
 (idx (m_1.ids.at c2) x1).bind fun x2=>
 ((pz2d fuel m_1.has x2).bind fun r1=>
 if(!r1)=true then
  (app m_1.has ([x2]:List Int)).bind fun l1=>
  some l1
 else
  some m_1.has:Option ((List Int))).bind fun c3=>
 (pz2n fuel x2).bind fun r2=>
 some (r2,(⟨m_1.f,m_1.ids,c3⟩:zF))
def pz2t(fuel:Nat)(m_1:zF)(d_1:DIns)(i1:Int)(c11:List Opd):Option ((List Opd)):=
 if decide ((Int.tmod (IntKind.wrap .i64 ((IntKind.wrap .i64 d_1.n)+i1)) 3)=0)=true then
  (pz2o fuel (IntKind.wrap .i64 d_1.n)).bind fun r8=>
  (app c11 ([r8]:List Opd)).bind fun l2=>
  some l2
 else
  (pz2p fuel m_1 0 (IntKind.wrap .u8 (d_1.a+(IntKind.wrap .u8 ((IntKind.wrap .u8 i1)*d_1.b))))).bind fun r9=>
  (app c11 ([r9]:List Opd)).bind fun l3=>
  some l3
def pz2u(fuel:Nat)(m_1:zF)(d_1:DIns):Option (Ins×zF):=
 (if decide ((IntKind.wrap .i64 (1+(Int.tmod (IntKind.wrap .i64 d_1.op) 19)))=16)=true then
  (pz2o fuel (IntKind.wrap .i64 d_1.n)).bind fun r1=>
  (if decide (0<(Int.tmod d_1.b 3))=true then
   (pz2p fuel m_1 (IntKind.wrap .i64 ((IntKind.wrap .i64 (Int.tmod d_1.b 3))-1)) d_1.a).bind fun r2=>
   (idx ([r1]:List Opd) 0).bind fun x1=>
   (setI ([r1]:List Opd) 0 r2).bind fun l1=>
   some l1
  else
   some ([r1]:List Opd):Option ((List Opd))).bind fun c10=>
  (pz2s fuel m_1 (Int.tmod (IntKind.wrap .i64 d_1.d) 2) (IntKind.wrap .u8 (Int.tdiv d_1.d 2))).bind fun(r3,m1)=>
  some (r3.kind,r3.cls,r3.n,r3.tag,c10,(⟨#[]⟩:ByteArray),0,m1)
 else
  if decide ((IntKind.wrap .i64 (1+(Int.tmod (IntKind.wrap .i64 d_1.op) 19)))=17)=true then
   (pz2p fuel m_1 1 d_1.a).bind fun r4=>
   (pz2s fuel m_1 0 d_1.d).bind fun(r5,m2)=>
   some (r5.kind,r5.cls,r5.n,r5.tag,([r4]:List Opd),(⟨#[]⟩:ByteArray),Int.tmod (IntKind.wrap .i64 d_1.n) 8,m2)
  else
   if decide ((IntKind.wrap .i64 (1+(Int.tmod (IntKind.wrap .i64 d_1.op) 19)))=18)=true then
    (pz2p fuel m_1 0 d_1.b).bind fun r6=>
    (pz2p fuel m_1 1 d_1.a).bind fun r7=>
    some (0,0,0,0,([r6,r7]:List Opd),(⟨#[]⟩:ByteArray),Int.tmod (IntKind.wrap .i64 d_1.n) 8,m_1)
   else
    if decide ((IntKind.wrap .i64 (1+(Int.tmod (IntKind.wrap .i64 d_1.op) 19)))=19)=true then
     (idx ([(⟨#[102]⟩:ByteArray),(⟨#[103]⟩:ByteArray),(⟨#[112,117,116,10]⟩:ByteArray)]:List ByteArray) (Int.tmod (IntKind.wrap .i64 d_1.a) 3)).bind fun x2=>
     (toN 0 (Int.tmod (IntKind.wrap .i64 d_1.b) 4) (fun i s=>pz2t fuel m_1 d_1 i s) ([]:List Opd)).bind fun c12=>
     if decide (0<(Int.tmod d_1.d 3))=true then
      (pz2s fuel m_1 0 d_1.d).bind fun(r10,m3)=>
      some (r10.kind,r10.cls,r10.n,r10.tag,c12,x2,0,m3)
     else
      some (0,0,0,0,c12,x2,0,m_1)
    else
     (pz2p fuel m_1 0 d_1.a).bind fun r11=>
     (pz2o fuel (IntKind.wrap .i64 d_1.n)).bind fun r12=>
     (if decide (0<(Int.tmod d_1.b 3))=true then
      (pz2p fuel m_1 0 d_1.b).bind fun r13=>
      (idx ([r11,r12]:List Opd) 1).bind fun x3=>
      (setI ([r11,r12]:List Opd) 1 r13).bind fun l4=>
      some l4
     else
      some ([r11,r12]:List Opd):Option ((List Opd))).bind fun c13=>
     (pz2s fuel m_1 0 d_1.d).bind fun(r14,m4)=>
     some (r14.kind,r14.cls,r14.n,r14.tag,c13,(⟨#[]⟩:ByteArray),0,m4):Option (Int×Int×Int×Int×(List Opd)×ByteArray×Int×zF)).bind fun(c2,c3,c4,c5,c6,c7,c8,c9)=>
 some ((⟨IntKind.wrap .i64 (1+(Int.tmod (IntKind.wrap .i64 d_1.op) 19)),(⟨c2,c3,c4,c5⟩:Opd),c6,c7,c8,[],[]⟩:Ins),c9)
def pz2v(fuel:Nat)(m_1:zF)(d_1:DBl)(i_1:Int)(nv_1:Int):Option Ins:=
 (pz2p fuel m_1 0 d_1.v).bind fun r1=>
 if((decide (nv_1=1))||((decide (i_1=(IntKind.wrap .i64 (nv_1-1))))&&(decide ((Int.tmod d_1.term 3)=0))))=true then
  (if decide ((Int.tmod d_1.v 7)=6)=true then
   (pz2o fuel (IntKind.wrap .i64 d_1.v)).bind fun r2=>
   some (r2.kind,r2.cls,r2.n,r2.tag)
  else
   some (r1.kind,r1.cls,r1.n,r1.tag):Option (Int×Int×Int×Int)).bind fun(c2,c3,c4,c5)=>
  some (⟨23,(⟨0,0,0,0⟩:Opd),([(⟨c2,c3,c4,c5⟩:Opd)]:List Opd),(⟨#[]⟩:ByteArray),0,[],[]⟩:Ins)
 else
  (pz2r fuel d_1.a nv_1).bind fun r3=>
  (if decide (i_1<(IntKind.wrap .i64 (nv_1-1)))=true then
   (pz2q fuel (IntKind.wrap .i64 (i_1+1))).bind fun r4=>
   some r4
  else
   some r3:Option ByteArray).bind fun next_1=>
  bindE (
   (if decide ((Int.tmod d_1.term 4)=0)=true then
    some (decide ((Int.tmod d_1.term 4)=0))
   else
    some (decide ((Int.tmod d_1.term 4)=1)):Option Bool).bind fun x_1=>
   if x_1=true then
    if decide ((Int.tmod d_1.term 8)<4)=true then
     (pz2r fuel d_1.b nv_1).bind fun r5=>
     some (.r ((⟨21,(⟨0,0,0,0⟩:Opd),([r1]:List Opd),(⟨#[]⟩:ByteArray),0,([next_1,r5]:List ByteArray),[]⟩:Ins)))
    else
     (pz2r fuel d_1.b nv_1).bind fun r6=>
     some (.r ((⟨21,(⟨0,0,0,0⟩:Opd),([r1]:List Opd),(⟨#[]⟩:ByteArray),0,([r6,next_1]:List ByteArray),[]⟩:Ins)))
   else
    if decide ((Int.tmod d_1.term 4)=2)=true then
     (pz2r fuel d_1.b nv_1).bind fun r7=>
     (if decide ((Int.tmod d_1.v 2)=0)=true then
      (sli ([Int.tmod (IntKind.wrap .i64 d_1.a) 3,5]:List Int) 0 1).bind fun l1=>
      some (([r7,next_1]:List ByteArray),l1)
     else
      some (([r3,r7,next_1]:List ByteArray),([Int.tmod (IntKind.wrap .i64 d_1.a) 3,5]:List Int)):Option ((List ByteArray)×(List Int))).bind fun(c6,c7)=>
     some (.r ((⟨22,(⟨0,0,0,0⟩:Opd),([r1]:List Opd),(⟨#[]⟩:ByteArray),0,c6,c7⟩:Ins)))
    else
     some (.n ())) (fun _=>
  some (⟨20,(⟨0,0,0,0⟩:Opd),[],(⟨#[]⟩:ByteArray),0,([next_1]:List ByteArray),[]⟩:Ins)) some
def pz2w(fuel:Nat)(d_1:Drf)(i1:Int)(c5:List Int)(c6:List Int)(i_1:Int):Option (Ex ((List Int)×(List Int)×Int) ((List Int)×(List Int))):=
 (ix2 i1).bind fun c9=>
 if decide (i_1<((⟨IntKind.wrap .i64 (1+(Int.tmod (IntKind.wrap .i64 d_1.g) 6)),IntKind.wrap .i64 (1+(Int.tmod (IntKind.wrap .i64 d_1.x) 3))⟩:A2 Int).at c9))=true then
  ((ix2 i1).bind fun c12=>
  if c12=true then
   (app c6 ([IntKind.wrap .i64 ((IntKind.wrap .i64 (2*i_1))+i1)]:List Int)).bind fun l2=>
   some (c5,l2)
  else
   (app c5 ([IntKind.wrap .i64 ((IntKind.wrap .i64 (2*i_1))+i1)]:List Int)).bind fun l1=>
   some (l1,c6):Option ((List Int)×(List Int))).bind fun(c10,c11)=>
  some (.n (c10,c11,IntKind.wrap .i64 (i_1+1)))
 else
  some (.b (c5,c6,i_1))
def pz2x(fuel:Nat)(d_1:Drf)(i1:Int)(c1:List Int)(c2:List Int):Option ((List Int)×(List Int)):=
 bindE (loopE fuel (fun s=>pz2w fuel d_1 i1 s.1 s.2.1 s.2.2) (c1,c2,0)) (fun(c7,c8,i_2)=>
 some (c7,c8)) some
def pz2y(fuel:Nat)(d_1:Drf)(i3:Int)(c13:List Rg):Option ((List Rg)):=
 (ix2 (Int.tmod i3 2)).bind fun c15=>
 if decide ((IntKind.wrap .i64 (Int.tdiv i3 2))<((⟨IntKind.wrap .i64 (1+(Int.tmod (IntKind.wrap .i64 d_1.g) 6)),IntKind.wrap .i64 (1+(Int.tmod (IntKind.wrap .i64 d_1.x) 3))⟩:A2 Int).at c15))=true then
  (app c13 ([(⟨i3,Int.tmod i3 2⟩:Rg)]:List Rg)).bind fun l3=>
  some l3
 else
  some c13
def pz2z(fuel:Nat)(d_1:Drf)(c14:List Rg)(i_3:Int)(c16:List Opd)(c17:List Int)(code_1:List Ins):Option (Ex (Int×(List Opd)×(List Int)×(List Ins)) Fnc):=
 if decide (i_3<(c14.length:Int))=true then
  ((idx c14 i_3).bind fun x1=>
  (rem (IntKind.wrap .i64 d_1.params) (IntKind.wrap .i64 ((c14.length:Int)+1))).bind fun x2=>
  if decide (i_3<x2)=true then
   (pz2n fuel x1.id).bind fun r1=>
   (app c16 ([r1]:List Opd)).bind fun l4=>
   (app c17 ([x1.id]:List Int)).bind fun l5=>
   some (l4,l5,code_1)
  else
   if((decide (i_3<2))||(decide ((IntKind.wrap .i64 (i_3+2))<(c14.length:Int))))=true then
    (pz2n fuel x1.id).bind fun r2=>
    (pz2o fuel (IntKind.wrap .i64 (3*x1.id))).bind fun r3=>
    (app code_1 [(⟨16,r2,([r3]:List Opd),(⟨#[]⟩:ByteArray),0,([]:List ByteArray),([]:List Int)⟩:Ins)]).bind fun l6=>
    (app c17 ([x1.id]:List Int)).bind fun l7=>
    some (c16,l7,l6)
   else
    some (c16,c17,code_1):Option ((List Opd)×(List Int)×(List Ins))).bind fun(c20,c21,code_3)=>
  some (.n (IntKind.wrap .i64 (i_3+1),c20,c21,code_3))
 else
  some (.b (i_3,c16,c17,code_1))
def pz30(fuel:Nat)(c38:List DIns)(i6:Int)(m_1:zF)(code_6:List Ins):Option (zF×(List Ins)):=
 (idx c38 i6).bind fun x4=>
 (pz2u fuel m_1 x4).bind fun(r4,m3)=>
 (app code_6 [r4]).bind fun l10=>
 some (m3,l10)
def pz31(fuel:Nat)(d_1:Drf)(l8:List Int)(i5:Int)(c22:Bool)(c23:ByteArray)(c24:List Rg)(c25:List Opd)(c26:List Bl)(c27:List Int)(c28:List Int)(c29:List Int)(code_4:List Ins):Option (Bool×ByteArray×(List Rg)×(List Opd)×(List Bl)×(List Int)×(List Int)×(List Int)×(List Ins)):=
 (if decide (i5<(d_1.blocks.length:Int))=true then
  (idx d_1.blocks i5).bind fun x3=>
  some (x3.code,x3.term,x3.a,x3.b,x3.v)
 else
  some (([]:List DIns),0,0,0,0):Option ((List DIns)×Int×Int×Int×Int)).bind fun(c38,c39,c40,c41,c42)=>
 (app ([]:List Int) l8).bind fun l9=>
 (toN 0 (c38.length:Int) (fun i s=>pz30 fuel c38 i s.1 s.2) ((⟨(⟨c22,c23,c24,c25,c26⟩:Fnc),(⟨c27,c28⟩:A2 (List Int)),l9⟩:zF),code_4)).bind fun(m_2,code_7)=>
 (pz2v fuel m_2 (⟨c38,c39,c40,c41,c42⟩:DBl) i5 (if 1>(d_1.blocks.length:Int) then 1 else(d_1.blocks.length:Int))).bind fun r5=>
 (app code_7 [r5]).bind fun l11=>
 (pz2q fuel i5).bind fun r6=>
 (app m_2.f.blocks [(⟨r6,false,([]:List Opd),l11⟩:Bl)]).bind fun l12=>
 some (m_2.f.machine,m_2.f.name,m_2.f.regs,m_2.f.params,l12,m_2.ids.a0,m_2.ids.a1,m_2.has,([]:List Ins))
def pz32(fuel:Nat)(d_1:Drf):Option Fnc:=
 (toN 0 2 (fun i s=>pz2x fuel d_1 i s.1 s.2) (([]:List Int),([]:List Int))).bind fun(c3,c4)=>
 (toN 0 12 (fun i s=>pz2y fuel d_1 i s) ([]:List Rg)).bind fun c14=>
 bindE (loopE fuel (fun s=>pz2z fuel d_1 c14 s.1 s.2.1 s.2.2.1 s.2.2.2) (0,([]:List Opd),([]:List Int),([]:List Ins))) (fun(i_4,c18,c19,code_2)=>
 (app ([]:List Int) c19).bind fun l8=>
 (toN 0 (if 1>(d_1.blocks.length:Int) then 1 else(d_1.blocks.length:Int)) (fun i s=>pz31 fuel d_1 l8 i s.1 s.2.1 s.2.2.1 s.2.2.2.1 s.2.2.2.2.1 s.2.2.2.2.2.1 s.2.2.2.2.2.2.1 s.2.2.2.2.2.2.2.1 s.2.2.2.2.2.2.2.2) (false,(⟨#[102]⟩:ByteArray),c14,c18,([]:List Bl),c3,c4,c19,code_2)).bind fun(c30,c31,c32,c33,c34,c35,c36,c37,code_5)=>
 some (⟨c30,c31,c32,c33,c34⟩:Fnc)) some
def pz33(fuel:Nat)(r8:zD)(x2:List Int)(i3:Int)(tov_1:List Int):Option ((List Int)):=
 (idx x2 i3).bind fun x3=>
 (pzg fuel r8 x3).bind fun r10=>
 if r10=true then
  (app tov_1 ([x3]:List Int)).bind fun l1=>
  some l1
 else
  some tov_1
def pz34(fuel:Nat)(r4:List (List Int))(r8:zD)(i2:Int)(inner_1:List (List Int)):Option ((List (List Int))):=
 (idx r4 i2).bind fun x2=>
 (toN 0 (x2.length:Int) (fun i s=>pz33 fuel r8 x2 i s) ([]:List Int)).bind fun tov_2=>
 (app inner_1 ([tov_2]:List (List Int))).bind fun l2=>
 some l2
def pz35(fuel:Nat)(x1:Int)(r8:zD)(r9:List Bool)(inner_2:List (List Int))(i4:Int):Option (Ex Unit (Ex Unit Bool)):=
 (pzg fuel r8 i4).bind fun r11=>
 (if r11=true then(idx r9 i4).bind fun x4=>
 (if x4=true then some true else(pz2k fuel inner_2 i4 (-1)).bind fun r12=>
 (idx r12 x1).bind fun x5=>
 some (!x5)).bind fun b1=>
 some b1 else some false).bind fun b2=>
 if b2=true then
  some (.r (.r (false)))
 else
  some (.n ())
def pz36(fuel:Nat)(r4:List (List Int))(r6:za)(r7:List Int)(i1:Int):Option (Ex Unit Bool):=
 (idx r7 i1).bind fun x1=>
 if((decide (x1<0))||(decide ((r4.length:Int)≤x1)))=true then
  some (.r (false))
 else
  (pz23 fuel r6 x1).bind fun r8=>
  (pz2k fuel r4 0 x1).bind fun r9=>
  (toN 0 (r4.length:Int) (fun i s=>pz34 fuel r4 r8 i s) ([]:List (List Int))).bind fun inner_2=>
  bindE (toE 0 (r4.length:Int) (fun i _=>pz35 fuel x1 r8 r9 inner_2 i) ()) (fun _=>
  (pzg fuel r8 x1).bind fun r13=>
  (if(!r13)=true then some true else(pz1z fuel r6 x1).bind fun r14=>
  some (decide (r14=0))).bind fun b3=>
  if b3=true then
   some (.r (false))
  else
   some (.n ())) some
def pz37(fuel:Nat)(d_1:Drf):Option Bool:=
 (pz2m fuel d_1).bind fun r1=>
 if r1=true then
  (pz29 fuel).bind fun r2=>
  some r2
 else
  (pz32 fuel d_1).bind fun r3=>
  (pz2g fuel r3).bind fun r4=>
  (pzc fuel r3).bind fun r5=>
  (pz1t fuel r5).bind fun r6=>
  (pz1w fuel r6).bind fun r7=>
  bindE (toE 0 (r7.length:Int) (fun i _=>pz36 fuel r4 r6 r7 i) ()) (fun _=>
  (pz29 fuel).bind fun r15=>
  some r15) some
end Go.Proofs.Ytoojnagdenoknaa.PL
