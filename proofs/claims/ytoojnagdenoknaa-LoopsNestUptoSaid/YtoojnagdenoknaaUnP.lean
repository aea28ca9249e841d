/- Functions of the program as pure ones. Printed by tq.py. -/
import Derived.Test.YtoojnagdenoknaaPD
import Derived.Test.YtoojnagdenoknaaPM
set_option linter.unusedSimpArgs false
set_option linter.unusedSectionVars false
set_option linter.unnecessarySimpa false
set_option linter.unusedVariables false
namespace Go.Proofs.Ytoojnagdenoknaa.PL
open Go
def pz0(fuel:Nat)(x2:Ins)(i3:Int)(nv_5:Int):Option Int:=
 (idx x2.labels i3).bind fun x3=>
 some (IntKind.wrap .i64 ((IntKind.wrap .i64 (nv_5+1))+(x3.size:Int)))
def pz1(fuel:Nat)(x1:Bl)(i2:Int)(nv_3:Int):Option Int:=
 (idx x1.code i2).bind fun x2=>
 (toN 0 (x2.labels.length:Int) (fun i s=>pz0 fuel x2 i s) (IntKind.wrap .i64 ((IntKind.wrap .i64 ((IntKind.wrap .i64 ((IntKind.wrap .i64 (nv_3+1))+(x2.args.length:Int)))+(x2.name.size:Int)))+(x2.cases.length:Int)))).bind fun nv_6=>
 some nv_6
def pz2(fuel:Nat)(f_1:Fnc)(i1:Int)(nv_1:Int):Option Int:=
 (idx f_1.blocks i1).bind fun x1=>
 (toN 0 (x1.code.length:Int) (fun i s=>pz1 fuel x1 i s) (IntKind.wrap .i64 ((IntKind.wrap .i64 (nv_1+(x1.label.size:Int)))+(x1.ins.length:Int)))).bind fun nv_4=>
 some nv_4
def pz3(fuel:Nat)(f_1:Fnc):Option Bool:=
 (toN 0 (f_1.blocks.length:Int) (fun i s=>pz2 fuel f_1 i s) (IntKind.wrap .i64 ((IntKind.wrap .i64 ((f_1.name.size:Int)+(f_1.regs.length:Int)))+(f_1.params.length:Int)))).bind fun nv_2=>
 some ((decide (2000<nv_2))||(decide (80<(f_1.blocks.length:Int))))
def pz4(fuel:Nat)(l_1:List ByteArray):Option ((List Ins)):=
 some ([(⟨21,(⟨0,0,0,0⟩:Opd),([]:List Opd),(⟨#[]⟩:ByteArray),0,l_1,([]:List Int)⟩:Ins)]:List Ins)
def pz5(fuel:Nat)(op_1:Int):Option Bool:=
 some ((decide (20≤op_1))&&(decide (op_1≤23)))
def pz6(fuel:Nat)(b_1:Bl):Option (Ins×Bool):=
 if decide ((b_1.code.length:Int)=0)=true then
  some ((⟨0,(⟨0,0,0,0⟩:Opd),[],(⟨#[]⟩:ByteArray),0,[],[]⟩:Ins),false)
 else
  (idx b_1.code (IntKind.wrap .i64 ((b_1.code.length:Int)-1))).bind fun x1=>
  (pz5 fuel x1.op).bind fun r1=>
  some (x1,r1)
def pz7(fuel:Nat)(b_1:Bl)(p_1:ByteArray):Option Bool:=
 some (decide (b_1.label=p_1))
def pz8(fuel:Nat)(s_1:List Bl)(w1:ByteArray)(x_1:Int):Option (Ex Int Int):=
 if decide (x_1<(s_1.length:Int))=true then
  (idx s_1 x_1).bind fun x1=>
  (pz7 fuel x1 w1).bind fun r1=>
  if r1=true then
   some (.r (x_1))
  else
   some (.n (IntKind.wrap .i64 (x_1+1)))
 else
  some (.b x_1)
def pz9(fuel:Nat)(s_1:List Bl)(w1:ByteArray):Option Int:=
 bindE (loopE fuel (fun s=>pz8 fuel s_1 w1 s) 0) (fun x_2=>
 some (-1)) some
def pza(fuel:Nat)(f_1:Fnc)(label_1:ByteArray):Option Int:=
 (pz9 fuel f_1.blocks label_1).bind fun r1=>
 some r1
def pzb(fuel:Nat)(s_1:List Int)(v_1:Int)(x_1:Int):Option (Ex Int Int):=
 if decide (x_1<(s_1.length:Int))=true then
  (idx s_1 x_1).bind fun x1=>
  if decide (v_1=x1)=true then
   some (.r (x_1))
  else
   some (.n (IntKind.wrap .i64 (x_1+1)))
 else
  some (.b x_1)
def pzc(fuel:Nat)(s_1:List Int)(v_1:Int):Option Int:=
 bindE (loopE fuel (fun s=>pzb fuel s_1 v_1 s) 0) (fun x_2=>
 some (-1)) some
def pzd(fuel:Nat)(s_1:List Int)(v_1:Int):Option Bool:=
 (pzc fuel s_1 v_1).bind fun r1=>
 some (decide (0≤r1))
def pze(fuel:Nat)(f_1:Fnc)(x_1:Int)(r1:Ins)(c7:List (List Int))(c8:List (List Int))(x_3:Int):Option (Ex ((List (List Int))×(List (List Int))×Int) ((List (List Int))×(List (List Int)))):=
 if decide (x_3<(r1.labels.length:Int))=true then
  ((idx r1.labels x_3).bind fun x2=>
  (pza fuel f_1 x2).bind fun r3=>
  (if(decide (0≤r3))=true then(idx c7 x_1).bind fun x3=>
  (pzd fuel x3 r3).bind fun r5=>
  some (!r5) else some false).bind fun b1=>
  if b1=true then
   (idx c7 x_1).bind fun x4=>
   (app x4 ([r3]:List Int)).bind fun l3=>
   (setI c7 x_1 l3).bind fun l4=>
   (idx c8 r3).bind fun x5=>
   (app x5 ([x_1]:List Int)).bind fun l5=>
   (setI c8 r3 l5).bind fun l6=>
   some (l4,l6)
  else
   some (c7,c8):Option ((List (List Int))×(List (List Int)))).bind fun(c11,c12)=>
  some (.n (c11,c12,IntKind.wrap .i64 (x_3+1)))
 else
  some (.b (c7,c8,x_3))
def pzf(fuel:Nat)(f_1:Fnc)(x_1:Int)(c1:List (List Int))(c2:List (List Int)):Option (Ex (Int×(List (List Int))×(List (List Int))) zI):=
 if decide (x_1<(f_1.blocks.length:Int))=true then
  ((idx f_1.blocks x_1).bind fun x1=>
  (pz6 fuel x1).bind fun(r1,r2)=>
  if(!r2)=true then
   some (c1,c2)
  else
   bindE (loopE fuel (fun s=>pze fuel f_1 x_1 r1 s.1 s.2.1 s.2.2) (c1,c2,0)) (fun(c9,c10,x_4)=>
   some (c9,c10)) some:Option ((List (List Int))×(List (List Int)))).bind fun(c5,c6)=>
  some (.n (IntKind.wrap .i64 (x_1+1),c5,c6))
 else
  some (.b (x_1,c1,c2))
def pzg(fuel:Nat)(f_1:Fnc):Option zI:=
 (mk (f_1.blocks.length:Int) ([]:List Int)).bind fun l1=>
 (mk (f_1.blocks.length:Int) ([]:List Int)).bind fun l2=>
 bindE (loopE fuel (fun s=>pzf fuel f_1 s.1 s.2.1 s.2.2) (0,l1,l2)) (fun(x_2,c3,c4)=>
 some (⟨c3,c4⟩:zI)) some
def pzh(fuel:Nat)(g_1:zI):Option Int:=
 some (g_1.succ.length:Int)
def pzi(fuel:Nat)(nv_1:Int):Option zC:=
 (mk (IntKind.wrap .i64 (Int.tdiv (IntKind.wrap .i64 ((IntKind.wrap .i64 ((if 0>nv_1 then 0 else nv_1)+64))-1)) 64)) (0:Int)).bind fun l1=>
 some (⟨(if 0>nv_1 then 0 else nv_1),l1⟩:zC)
def pzj(fuel:Nat)(s_1:zC)(i_1:Int):Option Bool:=
 some ((decide (0≤i_1))&&(decide (i_1<s_1.n)))
def pzk(fuel:Nat)(s_1:zC)(i_1:Int):Option Bool:=
 (pzj fuel s_1 i_1).bind fun r1=>
 (if r1=true then(idx s_1.words (IntKind.wrap .i64 (Int.tdiv i_1 64))).bind fun x1=>
 (shr .u64 x1 (Int.tmod i_1 64)).bind fun x2=>
 some (decide ((band .u64 x2 1)=1)) else some false).bind fun b1=>
 some b1
def pzl(fuel:Nat)(s_1:zC)(i_1:Int):Option (Bool×zC):=
 (pzj fuel s_1 i_1).bind fun r1=>
 (if(!r1)=true then some true else(pzk fuel s_1 i_1).bind fun r2=>
 some r2).bind fun b1=>
 if b1=true then
  some (false,s_1)
 else
  (idx s_1.words (IntKind.wrap .i64 (Int.tdiv i_1 64))).bind fun x1=>
  (shl .u64 1 (Int.tmod i_1 64)).bind fun x2=>
  (setI s_1.words (IntKind.wrap .i64 (Int.tdiv i_1 64)) (bor .u64 x1 x2)).bind fun l1=>
  some (true,(⟨s_1.n,l1⟩:zC))
def pzm(fuel:Nat)(i_1:Int)(p_1:zC)(p_2:List (A2 Int)):Option (zC×(List (A2 Int))):=
 (pzl fuel p_1 i_1).bind fun(r1,m1)=>
 if r1=true then
  (app p_2 ([(⟨i_1,0⟩:A2 Int)]:List (A2 Int))).bind fun l1=>
  some (m1,l1)
 else
  some (m1,p_2)
def pzn(fuel:Nat)(g_1:zI)(out_1:List Int)(steps_1:List (A2 Int))(c1:zC):Option (Ex ((List Int)×(List (A2 Int))×zC) ((List Int))):=
 if decide (0<(steps_1.length:Int))=true then
  (idx steps_1 (IntKind.wrap .i64 ((steps_1.length:Int)-1))).bind fun x1=>
  (idx g_1.succ x1.a0).bind fun x2=>
  if decide (x1.a1=(x2.length:Int))=true then
   (sli steps_1 0 (IntKind.wrap .i64 ((steps_1.length:Int)-1))).bind fun l1=>
   (app out_1 ([x1.a0]:List Int)).bind fun l2=>
   some (.n (l2,l1,c1))
  else
   (setI steps_1 (IntKind.wrap .i64 ((steps_1.length:Int)-1)) (⟨x1.a0,IntKind.wrap .i64 (x1.a1+1)⟩:A2 Int)).bind fun l3=>
   (idx x2 x1.a1).bind fun x3=>
   (pzm fuel x3 c1 l3).bind fun(m4,m5)=>
   some (.n (out_1,m5,m4))
 else
  some (.b (out_1,steps_1,c1))
def pzo(fuel:Nat)(g_1:zI):Option ((List Int)):=
 (pzh fuel g_1).bind fun r1=>
 (pzi fuel r1).bind fun r2=>
 (pzm fuel 0 r2 ([]:List (A2 Int))).bind fun(m1,m2)=>
 bindE (loopE fuel (fun s=>pzn fuel g_1 s.1 s.2.1 s.2.2) (([]:List Int),m2,m1)) (fun(out_2,steps_2,c2)=>
 some out_2) some
def pzp(fuel:Nat)(s_2:List Int)(i_1:Int)(j_1:Int):Option (Ex ((List Int)×Int×Int) ((List Int))):=
 if decide (i_1<j_1)=true then
  (idx s_2 j_1).bind fun x1=>
  (idx s_2 i_1).bind fun x2=>
  (setI s_2 i_1 x1).bind fun l1=>
  (idx l1 j_1).bind fun x3=>
  (setI l1 j_1 x2).bind fun l2=>
  some (.n (l2,IntKind.wrap .i64 (i_1+1),IntKind.wrap .i64 (j_1-1)))
 else
  some (.b (s_2,i_1,j_1))
def pzq(fuel:Nat)(s_1:List Int):Option ((List Int)):=
 bindE (loopE fuel (fun s=>pzp fuel s.1 s.2.1 s.2.2) (s_1,0,IntKind.wrap .i64 ((s_1.length:Int)-1))) (fun(s_3,i_2,j_2)=>
 some s_3) some
def pzr(fuel:Nat)(g_1:zI):Option ((List Int)):=
 (pzh fuel g_1).bind fun r1=>
 if decide (r1=0)=true then
  some ([]:List Int)
 else
  (pzo fuel g_1).bind fun r2=>
  (pzq fuel r2).bind fun m1=>
  some m1
def pzs(fuel:Nat)(s:List Int):Option (List Int):=app [] s
def pzt(fuel:Nat)(g_1:zI)(i_1:Int)(which_1:Int):Option ((List Int)):=
 (if(decide (i_1<0))=true then some true else(pzh fuel g_1).bind fun r1=>
 some (decide (r1≤i_1))).bind fun b1=>
 if b1=true then
  some ([]:List Int)
 else
  (ix2 which_1).bind fun c1=>
  (idx ((⟨g_1.succ,g_1.pred⟩:A2 (List (List Int))).at c1) i_1).bind fun x1=>
  (pzs fuel x1).bind fun r2=>
  some r2
def pzu(fuel:Nat)(g_1:zI)(i_1:Int):Option ((List Int)):=
 (pzt fuel g_1 i_1 1).bind fun r1=>
 some r1
def pzv(fuel:Nat)(t_1:dom_Tree)(b_2:Int)(av_4:Int):Option (Ex Int (Ex (Int×Int) Int)):=
 (idx t_1.order av_4).bind fun x1=>
 (idx t_1.order b_2).bind fun x2=>
 if decide (x2<x1)=true then
  (idx t_1.idom av_4).bind fun x3=>
  some (.n x3)
 else
  some (.b av_4)
def pzw(fuel:Nat)(t_1:dom_Tree)(av_5:Int)(b_4:Int):Option (Ex Int (Ex (Int×Int) Int)):=
 (idx t_1.order b_4).bind fun x4=>
 (idx t_1.order av_5).bind fun x5=>
 if decide (x5<x4)=true then
  (idx t_1.idom b_4).bind fun x6=>
  some (.n x6)
 else
  some (.b b_4)
def pzx(fuel:Nat)(t_1:dom_Tree)(av_2:Int)(b_2:Int):Option (Ex (Int×Int) Int):=
 if decide (av_2≠b_2)=true then
  bindE (loopE fuel (fun s=>pzv fuel t_1 b_2 s) av_2) (fun av_5=>
  bindE (loopE fuel (fun s=>pzw fuel t_1 av_5 s) b_2) (fun b_5=>
  some (.n (av_5,b_5))) some) some
 else
  some (.b (av_2,b_2))
def pzy(fuel:Nat)(t_1:dom_Tree)(av_1:Int)(b_1:Int):Option Int:=
 bindE (loopE fuel (fun s=>pzx fuel t_1 s.1 s.2) (av_1,b_1)) (fun(av_3,b_3)=>
 some av_3) some
def pzz(fuel:Nat)(t_1:dom_Tree)(c2:List Int)(r1:List Int)(best_1:Int)(x_3:Int):Option (Ex (Int×Int) ((List Int)×Bool)):=
 if decide (x_3<(r1.length:Int))=true then
  ((idx r1 x_3).bind fun x2=>
  (idx t_1.order x2).bind fun x3=>
  (if(decide (x3=(-1)))=true then some true else(idx c2 x2).bind fun x4=>
  some (decide (x4=(-1)))).bind fun b1=>
  if b1=true then
   some best_1
  else
   if decide (best_1=(-1))=true then
    some x2
   else
    (pzy fuel (⟨c2,t_1.order⟩:dom_Tree) best_1 x2).bind fun r2=>
    some r2:Option Int).bind fun best_3=>
  some (.n (best_3,IntKind.wrap .i64 (x_3+1)))
 else
  some (.b (best_1,x_3))
def pz10(fuel:Nat)(t_1:dom_Tree)(g_1:zI)(l_1:List Int)(c2:List Int)(x_1:Int)(changed_1:Bool):Option (Ex ((List Int)×Int×Bool) (Bool×dom_Tree)):=
 if decide (x_1<(l_1.length:Int))=true then
  ((idx l_1 x_1).bind fun x1=>
  (pzu fuel g_1 x1).bind fun r1=>
  bindE (loopE fuel (fun s=>pzz fuel t_1 c2 r1 s.1 s.2) ((-1),0)) (fun(best_2,x_4)=>
  (idx c2 x1).bind fun x5=>
  if decide (x5≠best_2)=true then
   (setI c2 x1 best_2).bind fun l1=>
   some (l1,true)
  else
   some (c2,changed_1)) some:Option ((List Int)×Bool)).bind fun(c4,changed_3)=>
  some (.n (c4,IntKind.wrap .i64 (x_1+1),changed_3))
 else
  some (.b (c2,x_1,changed_1))
def pz11(fuel:Nat)(t_1:dom_Tree)(g_1:zI)(l_1:List Int):Option (Bool×dom_Tree):=
 bindE (loopE fuel (fun s=>pz10 fuel t_1 g_1 l_1 s.1 s.2.1 s.2.2) (t_1.idom,0,false)) (fun(c3,x_2,changed_2)=>
 some (changed_2,(⟨c3,t_1.order⟩:dom_Tree))) some
def pz12(fuel:Nat)(l1:List Int)(x_1:Int)(c1:List Int)(c2:List Int):Option (Ex (Int×(List Int)×(List Int)) dom_Tree):=
 if decide (x_1<(l1.length:Int))=true then
  (idx c1 x_1).bind fun x1=>
  (setI c1 x_1 (-1)).bind fun l3=>
  (idx c2 x_1).bind fun x2=>
  (setI c2 x_1 (-1)).bind fun l4=>
  some (.n (IntKind.wrap .i64 (x_1+1),l3,l4))
 else
  some (.b (x_1,c1,c2))
def pz13(fuel:Nat)(r2:List Int)(c5:List Int)(x_3:Int):Option (Ex ((List Int)×Int) dom_Tree):=
 if decide (x_3<(r2.length:Int))=true then
  (idx r2 x_3).bind fun x3=>
  (idx c5 x3).bind fun x4=>
  (setI c5 x3 x_3).bind fun l5=>
  some (.n (l5,IntKind.wrap .i64 (x_3+1)))
 else
  some (.b (c5,x_3))
def pz14(fuel:Nat)(g_1:zI)(r2:List Int)(t_1:dom_Tree):Option (Ex dom_Tree dom_Tree):=
 (sli r2 1 (r2.length:Int)).bind fun l7=>
 (pz11 fuel t_1 g_1 l7).bind fun(r3,m4)=>
 if r3=true then
  some (.n m4)
 else
  some (.b m4)
def pz15(fuel:Nat)(g_1:zI):Option dom_Tree:=
 (pzh fuel g_1).bind fun r1=>
 (mk r1 (0:Int)).bind fun l1=>
 (mk r1 (0:Int)).bind fun l2=>
 bindE (loopE fuel (fun s=>pz12 fuel l1 s.1 s.2.1 s.2.2) (0,l1,l2)) (fun(x_2,c3,c4)=>
 (pzr fuel g_1).bind fun r2=>
 bindE (loopE fuel (fun s=>pz13 fuel r2 s.1 s.2) (c4,0)) (fun(c6,x_4)=>
 if decide ((r2.length:Int)=0)=true then
  some (⟨c3,c6⟩:dom_Tree)
 else
  (idx c3 0).bind fun x5=>
  (setI c3 0 0).bind fun l6=>
  bindE (loopE fuel (fun s=>pz14 fuel g_1 r2 s) (⟨l6,c6⟩:dom_Tree)) (fun t_2=>
  (idx t_2.idom 0).bind fun x6=>
  (setI t_2.idom 0 (-1)).bind fun l8=>
  some (⟨l8,t_2.order⟩:dom_Tree)) some) some) some
def pz16(fuel:Nat)(g_1:zI)(i_1:Int):Option ((List Int)):=
 (pzt fuel g_1 i_1 0).bind fun r1=>
 some r1
def pz17(fuel:Nat)(l:List Int):Option (List Int):=if l.length≤4294967296 then some (isort l) else none
def pz18(fuel:Nat)(x_1:Int)(m2:List Int)(x_3:Int)(out_3:List (A2 Int)):Option (Ex (Int×(List (A2 Int))) (Ex (Int×(List (A2 Int))) ((List (A2 Int))))):=
 if decide (x_3<(m2.length:Int))=true then
  (idx m2 x_3).bind fun x1=>
  (app out_3 ([(⟨x_1,x1⟩:A2 Int)]:List (A2 Int))).bind fun l1=>
  some (.n (IntKind.wrap .i64 (x_3+1),l1))
 else
  some (.b (x_3,out_3))
def pz19(fuel:Nat)(g_1:zI)(r1:Int)(x_1:Int)(out_1:List (A2 Int)):Option (Ex (Int×(List (A2 Int))) ((List (A2 Int)))):=
 if decide (x_1<r1)=true then
  (pz16 fuel g_1 x_1).bind fun r2=>
  (pz17 fuel r2).bind fun m2=>
  bindE (loopE fuel (fun s=>pz18 fuel x_1 m2 s.1 s.2) (0,out_1)) (fun(x_4,out_4)=>
  some (.n (IntKind.wrap .i64 (x_1+1),out_4))) some
 else
  some (.b (x_1,out_1))
def pz1a(fuel:Nat)(g_1:zI):Option ((List (A2 Int))):=
 (pzh fuel g_1).bind fun r1=>
 bindE (loopE fuel (fun s=>pz19 fuel g_1 r1 s.1 s.2) (0,([]:List (A2 Int)))) (fun(x_2,out_2)=>
 some out_2) some
def pz1b(fuel:Nat)(t_1:dom_Tree)(i_1:Int):Option Bool:=
 (if((decide (0≤i_1))&&(decide (i_1<(t_1.order.length:Int))))=true then(idx t_1.order i_1).bind fun x1=>
 some (decide (x1≠(-1))) else some false).bind fun b1=>
 some b1
def pz1c(fuel:Nat)(t_1:dom_Tree)(i_1:Int):Option Int:=
 (pz1b fuel t_1 i_1).bind fun r1=>
 if(!r1)=true then
  some (-1)
 else
  (idx t_1.idom i_1).bind fun x1=>
  some x1
def pz1d(fuel:Nat)(t_1:dom_Tree)(i_2:Int)(out_1:List Int):Option (Ex (Int×(List Int)) ((List Int))):=
 (pz1b fuel t_1 i_2).bind fun r1=>
 if r1=true then
  (app out_1 ([i_2]:List Int)).bind fun l1=>
  (pz1c fuel t_1 i_2).bind fun r2=>
  some (.n (r2,l1))
 else
  some (.b (i_2,out_1))
def pz1e(fuel:Nat)(t_1:dom_Tree)(i_1:Int):Option ((List Int)):=
 bindE (loopE fuel (fun s=>pz1d fuel t_1 s.1 s.2) (i_1,([]:List Int))) (fun(i_3,out_2)=>
 some out_2) some
def pz1f(fuel:Nat)(t_1:dom_Tree)(av_1:Int)(b_1:Int):Option Bool:=
 (pz1e fuel t_1 b_1).bind fun r1=>
 (pzd fuel r1 av_1).bind fun r2=>
 some r2
def pz1g(fuel:Nat)(l_1:List Int)(x_1:Int)(s_1:zC):Option (Ex (Int×zC) zC):=
 if decide (x_1<(l_1.length:Int))=true then
  (idx l_1 x_1).bind fun x1=>
  (pzl fuel s_1 x1).bind fun(r2,m2)=>
  some (.n (IntKind.wrap .i64 (x_1+1),m2))
 else
  some (.b (x_1,s_1))
def pz1h(fuel:Nat)(nv_1:Int)(l_1:List Int):Option zC:=
 (pzi fuel nv_1).bind fun r1=>
 bindE (loopE fuel (fun s=>pz1g fuel l_1 s.1 s.2) (0,r1)) (fun(x_2,s_2)=>
 some s_2) some
def pz1i(fuel:Nat)(i_1:Int)(p_1:Int)(p_2:zC)(p_3:List Int):Option (zC×(List Int)):=
 (if(decide (i_1≠p_1))=true then(pzl fuel p_2 i_1).bind fun(r1,m1)=>
 some (r1,m1) else some (false,p_2)).bind fun(b1,c4)=>
 if b1=true then
  (app p_3 ([i_1]:List Int)).bind fun l1=>
  some (c4,l1)
 else
  some (c4,p_3)
def pz1j(fuel:Nat)(g_1:zI):Option zC:=
 (pzh fuel g_1).bind fun r1=>
 (pzr fuel g_1).bind fun r2=>
 (pz1h fuel r1 r2).bind fun r3=>
 some r3
def pz1k(fuel:Nat)(av_1:Int)(b_1:Int):Option Int:=
 some (band .u64 av_1 b_1)
def pz1l(fuel:Nat)(s_1:zC)(k_1:Int):Option Int:=
 if decide ((IntKind.wrap .i64 (s_1.n-(IntKind.wrap .i64 (k_1*64))))<64)=true then
  (shl .u64 1 (IntKind.wrap .i64 (s_1.n-(IntKind.wrap .i64 (k_1*64))))).bind fun x1=>
  some (IntKind.wrap .u64 (x1-1))
 else
  some 18446744073709551615
def pz1m(fuel:Nat)(without_1:Int)(r3:List Int)(x_1:Int)(out_3:zC)(wait_3:List Int):Option (Ex (Int×zC×(List Int)) (Ex (zC×(List Int)) zC)):=
 if decide (x_1<(r3.length:Int))=true then
  (idx r3 x_1).bind fun x2=>
  (pz1i fuel x2 without_1 out_3 wait_3).bind fun(m5,m6)=>
  some (.n (IntKind.wrap .i64 (x_1+1),m5,m6))
 else
  some (.b (x_1,out_3,wait_3))
def pz1n(fuel:Nat)(g_1:zI)(without_1:Int)(out_1:zC)(wait_1:List Int):Option (Ex (zC×(List Int)) zC):=
 if decide (0<(wait_1.length:Int))=true then
  (idx wait_1 (IntKind.wrap .i64 ((wait_1.length:Int)-1))).bind fun x1=>
  (sli wait_1 0 (IntKind.wrap .i64 ((wait_1.length:Int)-1))).bind fun l1=>
  (pzu fuel g_1 x1).bind fun r3=>
  bindE (loopE fuel (fun s=>pz1m fuel without_1 r3 s.1 s.2.1 s.2.2) (0,out_1,l1)) (fun(x_2,out_4,wait_4)=>
  some (.n (out_4,wait_4))) some
 else
  some (.b (out_1,wait_1))
def pz1o(fuel:Nat)(g_1:zI)(tov_1:Int)(without_1:Int):Option zC:=
 (pzh fuel g_1).bind fun r1=>
 (pzi fuel r1).bind fun r2=>
 (pz1i fuel tov_1 without_1 r2 ([]:List Int)).bind fun(m1,m2)=>
 bindE (loopE fuel (fun s=>pz1n fuel g_1 without_1 s.1 s.2) (m1,m2)) (fun(out_2,wait_2)=>
 some out_2) some
def pz1p(fuel:Nat)(s_1:zC)(o_1:zC)(c2:List Int)(x_1:Int)(changed_1:Bool):Option (Ex ((List Int)×Int×Bool) (Bool×zC)):=
 if decide (x_1<(s_1.words.length:Int))=true then
  ((idx c2 x_1).bind fun x1=>
  (if decide (x_1<(o_1.words.length:Int))=true then
   (idx o_1.words x_1).bind fun x2=>
   some x2
  else
   some 0:Option Int).bind fun b_1=>
  (pz1k fuel x1 b_1).bind fun r1=>
  (pz1l fuel (⟨s_1.n,c2⟩:zC) x_1).bind fun r2=>
  (setI c2 x_1 (band .u64 r1 r2)).bind fun l1=>
  some (l1,(changed_1||(decide ((band .u64 r1 r2)≠x1)))):Option ((List Int)×Bool)).bind fun(c4,changed_3)=>
  some (.n (c4,IntKind.wrap .i64 (x_1+1),changed_3))
 else
  some (.b (c2,x_1,changed_1))
def pz1q(fuel:Nat)(s_1:zC)(o_1:zC):Option (Bool×zC):=
 bindE (loopE fuel (fun s=>pz1p fuel s_1 o_1 s.1 s.2.1 s.2.2) (s_1.words,0,false)) (fun(c3,x_2,changed_2)=>
 some (changed_2,(⟨s_1.n,c3⟩:zC))) some
def pz1r(fuel:Nat)(s_1:zC)(o_1:zC):Option (Bool×zC):=
 (pz1q fuel s_1 o_1).bind fun(r1,m1)=>
 some (r1,m1)
def pz1s(fuel:Nat)(av_1:Int)(b_1:Int):Option Int:=
 some (bor .u64 av_1 b_1)
def pz1t(fuel:Nat)(s_1:zC)(o_1:zC)(c3:List Int)(x_1:Int)(changed_1:Bool):Option (Ex ((List Int)×Int×Bool) (Bool×zC)):=
 if decide (x_1<(s_1.words.length:Int))=true then
  ((idx c3 x_1).bind fun x1=>
  (if decide (x_1<(o_1.words.length:Int))=true then
   (idx o_1.words x_1).bind fun x2=>
   some x2
  else
   some 0:Option Int).bind fun b_1=>
  (pz1s fuel x1 b_1).bind fun r1=>
  (pz1l fuel (⟨s_1.n,c3⟩:zC) x_1).bind fun r2=>
  (setI c3 x_1 (band .u64 r1 r2)).bind fun l1=>
  some (l1,(changed_1||(decide ((band .u64 r1 r2)≠x1)))):Option ((List Int)×Bool)).bind fun(c5,changed_3)=>
  some (.n (c5,IntKind.wrap .i64 (x_1+1),changed_3))
 else
  some (.b (c3,x_1,changed_1))
def pz1u(fuel:Nat)(s_1:zC)(o_1:zC):Option (Bool×zC):=
 bindE (loopE fuel (fun s=>pz1t fuel s_1 o_1 s.1 s.2.1 s.2.2) (s_1.words,0,false)) (fun(c4,x_2,changed_2)=>
 some (changed_2,(⟨s_1.n,c4⟩:zC))) some
def pz1v(fuel:Nat)(s_1:zC)(o_1:zC):Option (Bool×zC):=
 (pz1u fuel s_1 o_1).bind fun(r1,m1)=>
 some (r1,m1)
def pz1w(fuel:Nat)(g_1:zI)(r1:Int)(r2:dom_Tree)(r3:List (A2 Int))(x_1:Int)(c1:List (Int×zC)):Option (Ex (Int×(List (Int×zC))) zM):=
 if decide (x_1<(r3.length:Int))=true then
  ((idx r3 x_1).bind fun x1=>
  (pz1f fuel r2 x1.a1 x1.a0).bind fun r4=>
  if(!r4)=true then
   some c1
  else
   ((some (mhas c1 x1.a1)).bind fun c5=>
   if(!c5)=true then
    (pz1h fuel r1 ([x1.a1]:List Int)).bind fun r5=>
    some (mset c1 x1.a1 r5)
   else
    some c1:Option ((List (Int×zC)))).bind fun c4=>
   (pz1o fuel g_1 x1.a0 x1.a1).bind fun r6=>
   (pz1j fuel g_1).bind fun r7=>
   (pz1r fuel r6 r7).bind fun(r8,m2)=>
   (mget c4 x1.a1).bind fun x2=>
   (pz1v fuel x2 m2).bind fun(r9,m3)=>
   some (mset c4 x1.a1 m3):Option ((List (Int×zC)))).bind fun c3=>
  some (.n (IntKind.wrap .i64 (x_1+1),c3))
 else
  some (.b (x_1,c1))
def pz1x(fuel:Nat)(g_1:zI):Option zM:=
 (pzh fuel g_1).bind fun r1=>
 (pz15 fuel g_1).bind fun r2=>
 (pz1a fuel g_1).bind fun r3=>
 bindE (loopE fuel (fun s=>pz1w fuel g_1 r1 r2 r3 s.1 s.2) (0,([]:List (Int×zC)))) (fun(x_2,c2)=>
 some (⟨r1,c2⟩:zM)) some
def pz1y(fuel:Nat)(m_1:List (Int×zC)):Option (((List (Int×zC)))):=
 some m_1
def pz1z(fuel:Nat)(w1:List (Int×zC)):Option (List Int):=if w1.length≤4294967296 then some (isort (w1.map (·.1))) else none
def pz20(fuel:Nat)(l_1:zM):Option ((List Int)):=
 (pz1y fuel l_1.body).bind fun r1=>
 (pz1z fuel r1).bind fun r2=>
 some r2
def pz21(fuel:Nat)(av_1:List Int)(b_1:List Int)(i1:Int):Option (Ex Unit Bool):=
 (idx av_1 i1).bind fun x1=>
 (idx b_1 i1).bind fun x2=>
 if decide (x1≠x2)=true then
  some (.r (false))
 else
  some (.n ())
def pz22(fuel:Nat)(av_1:List Int)(b_1:List Int):Option Bool:=
 if decide ((av_1.length:Int)≠(b_1.length:Int))=true then
  some false
 else
  bindE (toE 0 (av_1.length:Int) (fun i _=>pz21 fuel av_1 b_1 i) ()) (fun _=>
  some true) some
def pz23(fuel:Nat)(l_1:zM)(i_1:Int):Option Int:=(l_1.body.mapM fun x=>pzk fuel x.2 i_1).bind fun bs=>some (IntKind.wrap .i64 ((bs.filter id).length:Int))
def pz24(fuel:Nat)(l_1:zM):Option Int:=
 some l_1.n
def pz25(fuel:Nat)(s:List Int):Option (List Int):=app [] s
def pz26(fuel:Nat)(s_1:zC):Option zC:=
 (pz25 fuel s_1.words).bind fun r1=>
 some (⟨s_1.n,r1⟩:zC)
def pz27(fuel:Nat)(l_1:zM)(head_1:Int):Option zC:=
 (some (mhas l_1.body head_1)).bind fun c1=>
 if(!c1)=true then
  (pz24 fuel l_1).bind fun r1=>
  (pzi fuel r1).bind fun r2=>
  some r2
 else
  (mget l_1.body head_1).bind fun x1=>
  (pz26 fuel x1).bind fun r3=>
  some r3
def pz28(fuel:Nat)(x_1:Int):Option Int:=
 (shr .u64 x_1 1).bind fun x1=>
 (shr .u64 (IntKind.wrap .u64 ((band .u64 x1 6148914691236517205)+(band .u64 x_1 6148914691236517205))) 2).bind fun x2=>
 (shr .u64 (IntKind.wrap .u64 ((band .u64 x2 3689348814741910323)+(band .u64 (IntKind.wrap .u64 ((band .u64 x1 6148914691236517205)+(band .u64 x_1 6148914691236517205))) 3689348814741910323))) 4).bind fun x3=>
 (shr .u64 (band .u64 (IntKind.wrap .u64 (x3+(IntKind.wrap .u64 ((band .u64 x2 3689348814741910323)+(band .u64 (IntKind.wrap .u64 ((band .u64 x1 6148914691236517205)+(band .u64 x_1 6148914691236517205))) 3689348814741910323))))) 1085102592571150095) 8).bind fun x4=>
 (shr .u64 (IntKind.wrap .u64 ((band .u64 (IntKind.wrap .u64 (x3+(IntKind.wrap .u64 ((band .u64 x2 3689348814741910323)+(band .u64 (IntKind.wrap .u64 ((band .u64 x1 6148914691236517205)+(band .u64 x_1 6148914691236517205))) 3689348814741910323))))) 1085102592571150095)+x4)) 16).bind fun x5=>
 (shr .u64 (IntKind.wrap .u64 ((IntKind.wrap .u64 ((band .u64 (IntKind.wrap .u64 (x3+(IntKind.wrap .u64 ((band .u64 x2 3689348814741910323)+(band .u64 (IntKind.wrap .u64 ((band .u64 x1 6148914691236517205)+(band .u64 x_1 6148914691236517205))) 3689348814741910323))))) 1085102592571150095)+x4))+x5)) 32).bind fun x6=>
 some (band .i64 (IntKind.wrap .i64 (IntKind.wrap .u64 ((IntKind.wrap .u64 ((IntKind.wrap .u64 ((band .u64 (IntKind.wrap .u64 (x3+(IntKind.wrap .u64 ((band .u64 x2 3689348814741910323)+(band .u64 (IntKind.wrap .u64 ((band .u64 x1 6148914691236517205)+(band .u64 x_1 6148914691236517205))) 3689348814741910323))))) 1085102592571150095)+x4))+x5))+x6))) 127)
def pz29(fuel:Nat)(s_1:zC)(x_1:Int)(nv_1:Int):Option (Ex (Int×Int) Int):=
 if decide (x_1<(s_1.words.length:Int))=true then
  (idx s_1.words x_1).bind fun x1=>
  (pz28 fuel x1).bind fun r1=>
  some (.n (IntKind.wrap .i64 (x_1+1),IntKind.wrap .i64 (nv_1+r1)))
 else
  some (.b (x_1,nv_1))
def pz2a(fuel:Nat)(s_1:zC):Option Int:=
 bindE (loopE fuel (fun s=>pz29 fuel s_1 s.1 s.2) (0,0)) (fun(x_2,nv_2)=>
 some nv_2) some
def pz2b(fuel:Nat)(l_1:zM)(i_1:Int)(r1:List Int)(x_1:Int)(best_1:Int):Option (Ex (Int×Int) Int):=
 if decide (x_1<(r1.length:Int))=true then
  ((idx r1 x_1).bind fun x1=>
  (mget l_1.body x1).bind fun x2=>
  (pzk fuel x2 i_1).bind fun r2=>
  (if r2=true then(if(decide (best_1<0))=true then some true else(pz2a fuel x2).bind fun r3=>
  (mget l_1.body best_1).bind fun x3=>
  (pz2a fuel x3).bind fun r4=>
  some (decide (r3≤r4))).bind fun b1=>
  some b1 else some false).bind fun b2=>
  if b2=true then
   some x1
  else
   some best_1:Option Int).bind fun best_3=>
  some (.n (IntKind.wrap .i64 (x_1+1),best_3))
 else
  some (.b (x_1,best_1))
def pz2c(fuel:Nat)(l_1:zM)(i_1:Int):Option Int:=
 (pz20 fuel l_1).bind fun r1=>
 bindE (loopE fuel (fun s=>pz2b fuel l_1 i_1 r1 s.1 s.2) (0,(-1))) (fun(x_2,best_2)=>
 some best_2) some
def pz2d(fuel:Nat):Option Bool:=
 (pz4 fuel ([(⟨#[98]⟩:ByteArray)]:List ByteArray)).bind fun r1=>
 (pz4 fuel ([(⟨#[99]⟩:ByteArray),(⟨#[101]⟩:ByteArray)]:List ByteArray)).bind fun r2=>
 (pz4 fuel ([(⟨#[99]⟩:ByteArray),(⟨#[100]⟩:ByteArray)]:List ByteArray)).bind fun r3=>
 (pz4 fuel ([(⟨#[98]⟩:ByteArray)]:List ByteArray)).bind fun r4=>
 (pzg fuel (⟨false,(⟨#[]⟩:ByteArray),[],[],([(⟨(⟨#[97]⟩:ByteArray),false,[],r1⟩:Bl),(⟨(⟨#[98]⟩:ByteArray),false,[],r2⟩:Bl),(⟨(⟨#[99]⟩:ByteArray),false,[],r3⟩:Bl),(⟨(⟨#[100]⟩:ByteArray),false,[],r4⟩:Bl),(⟨(⟨#[101]⟩:ByteArray),false,[],[]⟩:Bl)]:List Bl)⟩:Fnc)).bind fun r5=>
 (pz1x fuel r5).bind fun r6=>
 (pz20 fuel r6).bind fun r7=>
 (pz22 fuel r7 ([1,2]:List Int)).bind fun r8=>
 (if r8=true then(pz23 fuel r6 2).bind fun r9=>
 some (decide (r9=2)) else some false).bind fun b1=>
 (if b1=true then(pz23 fuel r6 3).bind fun r10=>
 some (decide (r10=1)) else some false).bind fun b2=>
 (if b2=true then(pz23 fuel r6 4).bind fun r11=>
 some (decide (r11=0)) else some false).bind fun b3=>
 (if b3=true then(pz27 fuel r6 1).bind fun r12=>
 (pz2a fuel r12).bind fun r13=>
 some (decide (r13=3)) else some false).bind fun b4=>
 (if b4=true then(pz2c fuel r6 2).bind fun r14=>
 some (decide (r14=2)) else some false).bind fun b5=>
 (if b5=true then(pz2c fuel r6 4).bind fun r15=>
 some (decide (r15=(-1))) else some false).bind fun b6=>
 (if b6=true then(pz24 fuel r6).bind fun r16=>
 some (decide (r16=5)) else some false).bind fun b7=>
 some b7
def pz2e(fuel:Nat)(f_1:Fnc)(label_1:ByteArray)(i1:Int):Option (Ex Unit Int):=
 (idx f_1.blocks i1).bind fun x1=>
 if decide (x1.label=label_1)=true then
  some (.r (i1))
 else
  some (.n ())
def pz2f(fuel:Nat)(f_1:Fnc)(label_1:ByteArray):Option Int:=
 bindE (toE 0 (f_1.blocks.length:Int) (fun i _=>pz2e fuel f_1 label_1 i) ()) (fun _=>
 some (-1)) some
def pz2g(fuel:Nat)(r4:zM)(r5:List Int)(r7:zC)(i2:Int):Option (Ex Unit (Ex Int Bool)):=
 (idx r5 i2).bind fun x2=>
 (pz27 fuel r4 x2).bind fun r14=>
 (pz26 fuel r7).bind fun r15=>
 (pz1r fuel r15 r14).bind fun(r16,m1)=>
 (pz2a fuel m1).bind fun r17=>
 (if(decide (0<r17))=true then(pz2a fuel r7).bind fun r18=>
 some (decide (r17≠r18)) else some false).bind fun b3=>
 (if b3=true then(pz2a fuel r14).bind fun r19=>
 some (decide (r17≠r19)) else some false).bind fun b4=>
 if b4=true then
  some (.r (.r (false)))
 else
  some (.n ())
def pz2h(fuel:Nat)(i_1:Int)(r4:zM)(r5:List Int)(r6:Int)(i1:Int)(nv_1:Int):Option (Ex Int Bool):=
 (idx r5 i1).bind fun x1=>
 (pz27 fuel r4 x1).bind fun r7=>
 bindE (
  (pzk fuel r7 i_1).bind fun r8=>
  if r8=true then
   (if(decide (r6<0))=true then some true else(pz27 fuel r4 r6).bind fun r9=>
   (pzk fuel r9 i_1).bind fun r10=>
   some (!r10)).bind fun b1=>
   (if b1=true then some true else(pz2a fuel r7).bind fun r11=>
   (pz27 fuel r4 r6).bind fun r12=>
   (pz2a fuel r12).bind fun r13=>
   some (decide (r11<r13))).bind fun b2=>
   if b2=true then
    some (.r (.r (false)))
   else
    some (.n (IntKind.wrap .i64 (nv_1+1)))
  else
   some (.n nv_1)) (fun nv_3=>
 bindE (toE 0 i1 (fun i _=>pz2g fuel r4 r5 r7 i) ()) (fun _=>
 some (.n nv_3)) some) some
def pz2i(fuel:Nat)(f_1:Fnc)(i_1:Int):Option Bool:=
 (pz3 fuel f_1).bind fun r1=>
 if(r1||(decide (40<(f_1.blocks.length:Int))))=true then
  (pz2d fuel).bind fun r2=>
  some r2
 else
  (pzg fuel f_1).bind fun r3=>
  (pz1x fuel r3).bind fun r4=>
  (pz20 fuel r4).bind fun r5=>
  (pz2c fuel r4 i_1).bind fun r6=>
  bindE (toE 0 (r5.length:Int) (fun i s=>pz2h fuel i_1 r4 r5 r6 i s) 0) (fun nv_2=>
  (pz23 fuel r4 i_1).bind fun r20=>
  (if((decide (nv_2=r20))&&((decide (0<nv_2))==(decide (0≤r6))))=true then(pz2d fuel).bind fun r21=>
  some r21 else some false).bind fun b5=>
  some b5) some
end Go.Proofs.Ytoojnagdenoknaa.PL
