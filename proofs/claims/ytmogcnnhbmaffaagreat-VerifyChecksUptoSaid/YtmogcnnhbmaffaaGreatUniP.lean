/- Functions of the program as pure ones. Printed by tq.py. -/
import Derived.Test.YtmogcnnhbmaffaaGreatPD
import Derived.Test.YtmogcnnhbmaffaaGreatPM
set_option linter.unusedVariables false
namespace Go.Proofs.YtmogcnnhbmaffaaGreat.PL
open Go
def pz0(fuel:Nat)(x2:Ins)(i3:Int)(nv_5:Int):Option Int:=
 (idx x2.labels i3).bind fun x3=>
 some (IntKind.wrap .i64 ((IntKind.wrap .i64 (nv_5+1))+(x3.size:Int)))
def pz1(fuel:Nat)(x1:Bl)(i2:Int)(nv_3:Int):Option Int:=
 (idx x1.code i2).bind fun x2=>
 (toN 0 (x2.labels.length:Int) (fun i s=>pz0 fuel x2 i s) (IntKind.wrap .i64 ((IntKind.wrap .i64 ((IntKind.wrap .i64 ((IntKind.wrap .i64 (nv_3+1))+(x2.args.length:Int)))+(x2.name.size:Int)))+(x2.cases.length:Int)))).bind fun nv_6=>
 some nv_6
def pz2(fuel:Nat)(f_1:Fnc)(i1:Int)(nv_1:Int):Option Int:=
 (idx f_1.blocks i1).bind fun x1=>
 (toN 0 (x1.code.length:Int) (fun i s=>pz1 fuel x1 i s) (IntKind.wrap .i64 ((IntKind.wrap .i64 (nv_1+(x1.label.size:Int)))+(x1.ins.length:Int)))).bind fun nv_4=>
 some nv_4
def pz3(fuel:Nat)(f_1:Fnc):Option Bool:=
 (toN 0 (f_1.blocks.length:Int) (fun i s=>pz2 fuel f_1 i s) (IntKind.wrap .i64 ((IntKind.wrap .i64 ((f_1.name.size:Int)+(f_1.regs.length:Int)))+(f_1.params.length:Int)))).bind fun nv_2=>
 some ((decide (2000<nv_2))||(decide (80<(f_1.blocks.length:Int))))
def pz4(fuel:Nat)(nv_1:Int):Option Opd:=
 some (⟨1,0,nv_1,0⟩:Opd)
def pz5(fuel:Nat)(code_1:Int):Option zd:=
 some (⟨code_1,(-1),(-1)⟩:zd)
def pz6(fuel:Nat)(c_1:Int):Option Bool:=
 some (((decide (97≤c_1))&&(decide (c_1≤122)))||(decide (c_1=95)))
def pz7(fuel:Nat)(c_1:Int):Option Bool:=
 (pz6 fuel c_1).bind fun r1=>
 some (r1||((decide (48≤c_1))&&(decide (c_1≤57))))
def pz8(fuel:Nat)(s_1:ByteArray)(x_1:Int):Option (Ex Int Bool):=
 if decide (x_1<(s_1.size:Int))=true then
  (bidx s_1 x_1).bind fun c2=>
  (pz7 fuel c2).bind fun r2=>
  if(!r2)=true then
   some (.r (false))
  else
   some (.n (IntKind.wrap .i64 (x_1+1)))
 else
  some (.b x_1)
def pz9(fuel:Nat)(s_1:ByteArray):Option Bool:=
 (if((decide (s_1=(⟨#[]⟩:ByteArray)))||(decide (24<(s_1.size:Int))))=true then some true else(bidx s_1 0).bind fun c1=>
 (pz6 fuel c1).bind fun r1=>
 some (!r1)).bind fun b1=>
 if b1=true then
  some false
 else
  bindE (loopE fuel (fun s=>pz8 fuel s_1 s) 0) (fun x_2=>
  some true) some
def pza(fuel:Nat):Option zd:=
 some (⟨0,(-1),(-1)⟩:zd)
def pzb(fuel:Nat)(c_1:zW):Option zd:=
 if c_1.f.machine=true then
  (pz5 fuel 1).bind fun r1=>
  some r1
 else
  (pz9 fuel c_1.f.name).bind fun r2=>
  if(!r2)=true then
   (pz5 fuel 42).bind fun r3=>
   some r3
  else
   (pza fuel).bind fun r4=>
   some r4
def pzc(fuel:Nat)(c_1:zW)(x_1:Int):Option (Ex Int zd):=
 if decide (x_1<(c_1.f.regs.length:Int))=true then
  (idx c_1.f.regs x_1).bind fun x1=>
  (if((((decide (x1.id<0))||(decide (2147483647<x1.id)))||(decide (x1.cls<0)))||(decide (2≤x1.cls)))=true then some true else(if(decide (0<x_1))=true then(idx c_1.f.regs (IntKind.wrap .i64 (x_1-1))).bind fun x2=>
  some (decide (x1.id≤x2.id)) else some false).bind fun b1=>
  some b1).bind fun b2=>
  if b2=true then
   (pz5 fuel 38).bind fun r2=>
   some (.r (r2))
  else
   some (.n (IntKind.wrap .i64 (x_1+1)))
 else
  some (.b x_1)
def pzd(fuel:Nat)(c_1:zW):Option zd:=
 if decide (1024<(c_1.f.regs.length:Int))=true then
  (pz5 fuel 4).bind fun r1=>
  some r1
 else
  bindE (loopE fuel (fun s=>pzc fuel c_1 s) 0) (fun x_2=>
  (pza fuel).bind fun r3=>
  some r3) some
def pze(fuel:Nat)(f_1:Fnc)(v_1:Int)(x_1:Int):Option (Ex Int (Int×Bool)):=
 if decide (x_1<(f_1.regs.length:Int))=true then
  (idx f_1.regs x_1).bind fun x1=>
  if decide (x1.id=v_1)=true then
   some (.r ((x1.cls,true)))
  else
   some (.n (IntKind.wrap .i64 (x_1+1)))
 else
  some (.b x_1)
def pzf(fuel:Nat)(f_1:Fnc)(v_1:Int):Option (Int×Bool):=
 bindE (loopE fuel (fun s=>pze fuel f_1 v_1 s) 0) (fun x_2=>
 some (0,false)) some
def pzg(fuel:Nat)(s_1:List Opd)(v_1:Opd)(x_1:Int):Option (Ex Int Int):=
 if decide (x_1<(s_1.length:Int))=true then
  (idx s_1 x_1).bind fun x1=>
  if decide (v_1=x1)=true then
   some (.r (x_1))
  else
   some (.n (IntKind.wrap .i64 (x_1+1)))
 else
  some (.b x_1)
def pzh(fuel:Nat)(s_1:List Opd)(v_1:Opd):Option Int:=
 bindE (loopE fuel (fun s=>pzg fuel s_1 v_1 s) 0) (fun x_2=>
 some (-1)) some
def pzi(fuel:Nat)(s_1:List Opd)(v_1:Opd):Option Bool:=
 (pzh fuel s_1 v_1).bind fun r1=>
 some (decide (0≤r1))
def pzj(fuel:Nat)(c_1:zW)(x_1:Int):Option (Ex Int zd):=
 if decide (x_1<(c_1.f.params.length:Int))=true then
  (idx c_1.f.params x_1).bind fun x1=>
  (pzf fuel c_1.f x1.n).bind fun(r1,r2)=>
  if(!decide (x1=(⟨1,0,x1.n,0⟩:Opd)))=true then
   (pz5 fuel 36).bind fun r3=>
   some (.r (r3))
  else
   if(!r2)=true then
    (pz5 fuel 38).bind fun r4=>
    some (.r (r4))
   else
    (sli c_1.f.params 0 x_1).bind fun l1=>
    (pzi fuel l1 x1).bind fun r5=>
    if r5=true then
     (pz5 fuel 31).bind fun r6=>
     some (.r (r6))
    else
     some (.n (IntKind.wrap .i64 (x_1+1)))
 else
  some (.b x_1)
def pzk(fuel:Nat)(c_1:zW):Option zd:=
 bindE (loopE fuel (fun s=>pzj fuel c_1 s) 0) (fun x_2=>
 (pza fuel).bind fun r7=>
 some r7) some
def pzl(fuel:Nat)(f_1:Fnc)(nv_1:Int)(x_1:Int):Option (Ex (Int×Int) Int):=
 if decide (x_1<(f_1.blocks.length:Int))=true then
  (idx f_1.blocks x_1).bind fun x1=>
  some (.n (IntKind.wrap .i64 (nv_1+(x1.code.length:Int)),IntKind.wrap .i64 (x_1+1)))
 else
  some (.b (nv_1,x_1))
def pzm(fuel:Nat)(f_1:Fnc):Option Int:=
 bindE (loopE fuel (fun s=>pzl fuel f_1 s.1 s.2) (0,0)) (fun(nv_2,x_2)=>
 some nv_2) some
def pzn(fuel:Nat)(b_1:Bl)(p_1:ByteArray):Option Bool:=
 some (decide (b_1.label=p_1))
def pzo(fuel:Nat)(s_1:List Bl)(w1:ByteArray)(x_1:Int):Option (Ex Int Int):=
 if decide (x_1<(s_1.length:Int))=true then
  (idx s_1 x_1).bind fun x1=>
  (pzn fuel x1 w1).bind fun r1=>
  if r1=true then
   some (.r (x_1))
  else
   some (.n (IntKind.wrap .i64 (x_1+1)))
 else
  some (.b x_1)
def pzp(fuel:Nat)(s_1:List Bl)(w1:ByteArray):Option Int:=
 bindE (loopE fuel (fun s=>pzo fuel s_1 w1 s) 0) (fun x_2=>
 some (-1)) some
def pzq(fuel:Nat)(f_1:Fnc)(label_1:ByteArray):Option Int:=
 (pzp fuel f_1.blocks label_1).bind fun r1=>
 some r1
def pzr(fuel:Nat)(c_1:zW)(x_1:Int):Option (Ex Int zd):=
 if decide (x_1<(c_1.f.blocks.length:Int))=true then
  (idx c_1.f.blocks x_1).bind fun x1=>
  (pz9 fuel x1.label).bind fun r4=>
  if(((!r4)||x1.edge)||(decide (0<(x1.ins.length:Int))))=true then
   some (.r ((⟨42,x_1,(-1)⟩:zd)))
  else
   (pzq fuel c_1.f x1.label).bind fun r5=>
   if decide (r5<x_1)=true then
    some (.r ((⟨31,x_1,(-1)⟩:zd)))
   else
    some (.n (IntKind.wrap .i64 (x_1+1)))
 else
  some (.b x_1)
def pzs(fuel:Nat)(c_1:zW):Option zd:=
 if((decide ((c_1.f.blocks.length:Int)=0))||(decide (64<(c_1.f.blocks.length:Int))))=true then
  (pz5 fuel 30).bind fun r1=>
  some r1
 else
  (pzm fuel c_1.f).bind fun r2=>
  if decide (4096<r2)=true then
   (pz5 fuel 4).bind fun r3=>
   some r3
  else
   bindE (loopE fuel (fun s=>pzr fuel c_1 s) 0) (fun x_2=>
   (pza fuel).bind fun r6=>
   some r6) some
def pzt(fuel:Nat)(op_1:Int):Option (yN×Bool):=
 if((decide (1≤op_1))&&(decide (op_1≤15)))=true then
  (idx [(⟨#[97,100,100]⟩:ByteArray),(⟨#[115,117,98]⟩:ByteArray),(⟨#[109,117,108]⟩:ByteArray),(⟨#[97,110,100]⟩:ByteArray),(⟨#[111,114]⟩:ByteArray),(⟨#[120,111,114]⟩:ByteArray),(⟨#[115,104,108]⟩:ByteArray),(⟨#[115,104,114]⟩:ByteArray),(⟨#[115,97,114]⟩:ByteArray),(⟨#[100,105,118]⟩:ByteArray),(⟨#[114,101,109]⟩:ByteArray),(⟨#[101,113]⟩:ByteArray),(⟨#[110,101]⟩:ByteArray),(⟨#[108,116]⟩:ByteArray),(⟨#[108,101]⟩:ByteArray)] (IntKind.wrap .i64 (op_1-1))).bind fun x1=>
  some ((⟨x1,1,(⟨1,5⟩:A2 Int),0,false⟩:yN),true)
 else
  if decide (op_1=16)=true then
   some ((⟨(⟨#[99,111,112,121]⟩:ByteArray),3,(⟨7,0⟩:A2 Int),0,false⟩:yN),true)
  else
   if decide (op_1=17)=true then
    some ((⟨(⟨#[108,111,97,100]⟩:ByteArray),1,(⟨2,0⟩:A2 Int),0,false⟩:yN),true)
   else
    if decide (op_1=18)=true then
     some ((⟨(⟨#[115,116,111,114,101]⟩:ByteArray),0,(⟨1,2⟩:A2 Int),0,false⟩:yN),true)
    else
     if decide (op_1=19)=true then
      some ((⟨(⟨#[99,97,108,108]⟩:ByteArray),17,(⟨13,0⟩:A2 Int),0,false⟩:yN),true)
     else
      if decide (op_1=20)=true then
       some ((⟨(⟨#[98,114]⟩:ByteArray),0,(⟨0,0⟩:A2 Int),1,false⟩:yN),true)
      else
       if decide (op_1=21)=true then
        some ((⟨(⟨#[98,114,105,102]⟩:ByteArray),0,(⟨1,0⟩:A2 Int),2,false⟩:yN),true)
       else
        if decide (op_1=22)=true then
         some ((⟨(⟨#[115,119,105,116,99,104]⟩:ByteArray),0,(⟨1,0⟩:A2 Int),(-1),false⟩:yN),true)
        else
         if decide (op_1=23)=true then
          some ((⟨(⟨#[114,101,116]⟩:ByteArray),0,(⟨5,0⟩:A2 Int),0,false⟩:yN),true)
         else
          if decide (op_1=24)=true then
           some ((⟨(⟨#[109,111,118,101]⟩:ByteArray),3,(⟨3,0⟩:A2 Int),0,true⟩:yN),true)
          else
           if decide (op_1=25)=true then
            some ((⟨(⟨#[115,112,105,108,108]⟩:ByteArray),8,(⟨3,0⟩:A2 Int),0,true⟩:yN),true)
           else
            if decide (op_1=26)=true then
             some ((⟨(⟨#[114,101,108,111,97,100]⟩:ByteArray),3,(⟨8,0⟩:A2 Int),0,true⟩:yN),true)
            else
             if decide (op_1=27)=true then
              some ((⟨(⟨#[115,119,97,112]⟩:ByteArray),0,(⟨11,11⟩:A2 Int),0,true⟩:yN),true)
             else
              some ((⟨(⟨#[]⟩:ByteArray),0,(⟨0,0⟩:A2 Int),0,false⟩:yN),false)
def pzu(fuel:Nat)(op_1:Int):Option Bool:=
 (pzt fuel op_1).bind fun(r1,r2)=>
 some r2
def pzv(fuel:Nat)(op_1:Int):Option Bool:=
 (pzt fuel op_1).bind fun(r1,r2)=>
 some r1.machine
def pzw(fuel:Nat)(op_1:Int):Option Bool:=
 some ((decide (20≤op_1))&&(decide (op_1≤23)))
def pzx(fuel:Nat)(r1:yN)(nv_1:Int):Option (Ex Int (Int×Int)):=
 (if(decide (nv_1<2))=true then(ix2 nv_1).bind fun c1=>
 some (decide ((r1.args.at c1)≠0)) else some false).bind fun b1=>
 if b1=true then
  some (.n (IntKind.wrap .i64 (nv_1+1)))
 else
  some (.b nv_1)
def pzy(fuel:Nat)(op_1:Int):Option (Int×Int):=
 (pzt fuel op_1).bind fun(r1,r2)=>
 if decide (op_1=19)=true then
  some (0,8)
 else
  if(!r2)=true then
   some (0,0)
  else
   bindE (loopE fuel (fun s=>pzx fuel r1 s) 0) (fun nv_2=>
   some (nv_2,nv_2)) some
def pzz(fuel:Nat)(op_1:Int):Option (Bool×Bool):=
 (pzt fuel op_1).bind fun(r1,r2)=>
 some (((decide (r1.dst≠0))&&(decide ((band .i64 r1.dst 16)=0))),decide (r1.dst≠0))
def pz10(fuel:Nat)(op_1:Int)(cases_1:Int):Option Int:=
 (pzt fuel op_1).bind fun(r1,r2)=>
 if decide (r1.labels<0)=true then
  some (IntKind.wrap .i64 (cases_1+1))
 else
  some r1.labels
def pz11(fuel:Nat)(i_1:Ins):Option Bool:=
 (pzy fuel i_1.op).bind fun(r1,r2)=>
 (pzz fuel i_1.op).bind fun(r3,r4)=>
 (if((((decide (r1≤(i_1.args.length:Int)))&&(decide ((i_1.args.length:Int)≤r2)))&&((decide (i_1.dst.kind≠0))||(!r3)))&&(r4||(!(decide (i_1.dst.kind≠0)))))=true then(pz10 fuel i_1.op (i_1.cases.length:Int)).bind fun r5=>
 some (decide ((i_1.labels.length:Int)=r5)) else some false).bind fun b1=>
 some (((b1&&((decide (i_1.op=22))||(decide ((i_1.cases.length:Int)=0))))&&((decide (i_1.op=19))||(decide (i_1.name=(⟨#[]⟩:ByteArray)))))&&(((decide (i_1.op=17))||(decide (i_1.op=18)))||(decide (i_1.off=0))))
def pz12(fuel:Nat)(s_1:List Int)(v_1:Int)(x_1:Int):Option (Ex Int Int):=
 if decide (x_1<(s_1.length:Int))=true then
  (idx s_1 x_1).bind fun x1=>
  if decide (v_1=x1)=true then
   some (.r (x_1))
  else
   some (.n (IntKind.wrap .i64 (x_1+1)))
 else
  some (.b x_1)
def pz13(fuel:Nat)(s_1:List Int)(v_1:Int):Option Int:=
 bindE (loopE fuel (fun s=>pz12 fuel s_1 v_1 s) 0) (fun x_2=>
 some (-1)) some
def pz14(fuel:Nat)(s_1:List Int)(v_1:Int):Option Bool:=
 (pz13 fuel s_1 v_1).bind fun r1=>
 some (decide (0≤r1))
def pz15(fuel:Nat)(l_1:List Int)(x_1:Int):Option (Ex Int Bool):=
 if decide (x_1<(l_1.length:Int))=true then
  (idx l_1 x_1).bind fun x1=>
  (sli l_1 0 x_1).bind fun l1=>
  (pz14 fuel l1 x1).bind fun r1=>
  if r1=true then
   some (.r (true))
  else
   some (.n (IntKind.wrap .i64 (x_1+1)))
 else
  some (.b x_1)
def pz16(fuel:Nat)(l_1:List Int):Option Bool:=
 bindE (loopE fuel (fun s=>pz15 fuel l_1 s) 0) (fun x_2=>
 some false) some
def pz17(fuel:Nat)(o_1:Opd):Option Bool:=
 some ((decide (o_1.cls=0))&&(decide (o_1.tag=0)))
def pz18(fuel:Nat)(nv_1:Int):Option Bool:=
 some ((decide (0≤nv_1))&&(decide (nv_1≤2147483647)))
def pz19(fuel:Nat)(classv_1:Int):Option ByteArray:=
 if((decide (classv_1<0))||(decide (2≤classv_1)))=true then
  some (⟨#[]⟩:ByteArray)
 else
  (bsli (⟨#[103,120]⟩:ByteArray) classv_1 (IntKind.wrap .i64 (classv_1+1))).bind fun s2=>
  some s2
def pz1a(fuel:Nat)(nv_1:Int):Option Bool:=
 (pz19 fuel nv_1).bind fun r1=>
 some (decide (r1≠(⟨#[]⟩:ByteArray)))
def pz1b(fuel:Nat)(o_1:Opd):Option Bool:=
 if decide (o_1.kind=0)=true then
  (pz17 fuel o_1).bind fun r1=>
  some (r1&&(decide (o_1.n=0)))
 else
  if decide (o_1.kind=1)=true then
   (pz17 fuel o_1).bind fun r2=>
   (if r2=true then(pz18 fuel o_1.n).bind fun r3=>
   some r3 else some false).bind fun b1=>
   some b1
  else
   if decide (o_1.kind=4)=true then
    (pz17 fuel o_1).bind fun r4=>
    some r4
   else
    if decide (o_1.kind=2)=true then
     (pz1a fuel o_1.cls).bind fun r5=>
     (if r5=true then(pz18 fuel o_1.n).bind fun r6=>
     some r6 else some false).bind fun b2=>
     (if b2=true then(pz18 fuel o_1.tag).bind fun r7=>
     some r7 else some false).bind fun b3=>
     some b3
    else
     if decide (o_1.kind=3)=true then
      (if(decide (o_1.cls=0))=true then(pz18 fuel o_1.n).bind fun r8=>
      some r8 else some false).bind fun b4=>
      (if b4=true then(pz18 fuel o_1.tag).bind fun r9=>
      some r9 else some false).bind fun b5=>
      some b5
     else
      some false
def pz1c(fuel:Nat)(o_1:Opd):Option Bool:=
 (if(decide (o_1.kind≠4))=true then(pz1b fuel o_1).bind fun r1=>
 some r1 else some false).bind fun b1=>
 some b1
def pz1d(fuel:Nat)(x:Nat)(a0_:Opd):Option Bool:=
 if x=115 then pz1b fuel a0_ else none
def pz1e(fuel:Nat)(o_1:Opd)(p_1:Nat):Option Bool:=
 (pz1d fuel p_1 o_1).bind fun r1=>
 some (!r1)
def pz1f(fuel:Nat)(s_1:List Opd)(w1:Nat)(x_1:Int):Option (Ex Int Int):=
 if decide (x_1<(s_1.length:Int))=true then
  (idx s_1 x_1).bind fun x1=>
  (pz1e fuel x1 w1).bind fun r1=>
  if r1=true then
   some (.r (x_1))
  else
   some (.n (IntKind.wrap .i64 (x_1+1)))
 else
  some (.b x_1)
def pz1g(fuel:Nat)(s_1:List Opd)(w1:Nat):Option Int:=
 bindE (loopE fuel (fun s=>pz1f fuel s_1 w1 s) 0) (fun x_2=>
 some (-1)) some
def pz1h(fuel:Nat)(s_1:List Opd)(w1:Nat):Option Bool:=
 (pz1g fuel s_1 w1).bind fun r1=>
 some (decide (0≤r1))
def pz1i(fuel:Nat)(l_1:List Opd):Option Bool:=
 (pz1h fuel l_1 115).bind fun r1=>
 some (!r1)
def pz1j(fuel:Nat)(s_1:ByteArray)(x_1:Int):Option (Ex Int (ByteArray×ByteArray×Bool)):=
 if decide (x_1<(s_1.size:Int))=true then
  (bidx s_1 x_1).bind fun c1=>
  if decide (c1=46)=true then
   (bsli s_1 0 x_1).bind fun s2=>
   (bsli s_1 (IntKind.wrap .i64 (x_1+1)) (s_1.size:Int)).bind fun s3=>
   (pz9 fuel s2).bind fun r1=>
   (if(!r1)=true then some true else(pz9 fuel s3).bind fun r2=>
   some (!r2)).bind fun b1=>
   if b1=true then
    some (.r (((⟨#[]⟩:ByteArray),(⟨#[]⟩:ByteArray),false)))
   else
    some (.r ((s2,s3,true)))
  else
   some (.n (IntKind.wrap .i64 (x_1+1)))
 else
  some (.b x_1)
def pz1k(fuel:Nat)(s_1:ByteArray):Option (ByteArray×ByteArray×Bool):=
 bindE (loopE fuel (fun s=>pz1j fuel s_1 s) 0) (fun x_2=>
 some ((⟨#[]⟩:ByteArray),(⟨#[]⟩:ByteArray),false)) some
def pz1l(fuel:Nat)(s_1:ByteArray)(edge_1:Bool):Option Bool:=
 if(!edge_1)=true then
  (pz9 fuel s_1).bind fun r1=>
  some r1
 else
  (pz1k fuel s_1).bind fun(r2,r3,r4)=>
  some r4
def pz1m(fuel:Nat)(s_1:ByteArray):Option Bool:=
 (pz1l fuel s_1 false).bind fun r1=>
 (if r1=true then some true else(pz1l fuel s_1 true).bind fun r2=>
 some r2).bind fun b1=>
 some b1
def pz1n(fuel:Nat)(s_1:ByteArray):Option Bool:=
 (pz1m fuel s_1).bind fun r1=>
 some (!r1)
def pz1o(fuel:Nat)(s_1:List ByteArray)(x_1:Int):Option (Ex Int Int):=
 if decide (x_1<(s_1.length:Int))=true then
  (idx s_1 x_1).bind fun x1=>
  (pz1n fuel x1).bind fun r1=>
  if r1=true then
   some (.r (x_1))
  else
   some (.n (IntKind.wrap .i64 (x_1+1)))
 else
  some (.b x_1)
def pz1p(fuel:Nat)(s_1:List ByteArray):Option Int:=
 bindE (loopE fuel (fun s=>pz1o fuel s_1 s) 0) (fun x_2=>
 some (-1)) some
def pz1q(fuel:Nat)(s_1:List ByteArray):Option Bool:=
 (pz1p fuel s_1).bind fun r1=>
 some (decide (0≤r1))
def pz1r(fuel:Nat)(i_1:Ins):Option Bool:=
 if((decide (i_1.op≠22))&&(decide (0<(i_1.cases.length:Int))))=true then
  some false
 else
  (pz10 fuel i_1.op (i_1.cases.length:Int)).bind fun r1=>
  (if(decide ((i_1.labels.length:Int)=r1))=true then(pz1q fuel i_1.labels).bind fun r2=>
  some (!r2) else some false).bind fun b1=>
  some b1
def pz1s(fuel:Nat)(i_1:Ins):Option Bool:=
 some ((((decide (i_1.op=19))&&(decide ((i_1.name.size:Int)≤64)))||(decide (i_1.name=(⟨#[]⟩:ByteArray))))&&(((decide (i_1.op=17))||(decide (i_1.op=18)))||(decide (i_1.off=0))))
def pz1t(fuel:Nat)(i_1:Ins):Option Bool:=
 (pzy fuel i_1.op).bind fun(r1,r2)=>
 (pzu fuel i_1.op).bind fun r3=>
 (if(r3&&((decide ((i_1.args.length:Int)=r1))||((decide (i_1.op=19))&&(decide (0<r2)))))=true then(pz1c fuel i_1.dst).bind fun r4=>
 some r4 else some false).bind fun b1=>
 (if b1=true then(pz1i fuel i_1.args).bind fun r5=>
 some r5 else some false).bind fun b2=>
 (if b2=true then(pz1r fuel i_1).bind fun r6=>
 some r6 else some false).bind fun b3=>
 (if b3=true then(pz1s fuel i_1).bind fun r7=>
 some r7 else some false).bind fun b4=>
 some b4
def pz1u(fuel:Nat)(op_1:Int)(i_1:Int):Option Int:=
 (pzt fuel op_1).bind fun(r1,r2)=>
 if decide (i_1=(-1))=true then
  some r1.dst
 else
  if(((decide (op_1=19))&&(decide (0≤i_1)))&&(decide (i_1<8)))=true then
   some r1.args.a0
  else
   if((decide (0≤i_1))&&(decide (i_1<2)))=true then
    (ix2 i_1).bind fun c1=>
    some (r1.args.at c1)
   else
    some 0
def pz1v(fuel:Nat)(op_1:Int)(i_1:Int)(kind_1:Int)(machine_1:Bool):Option Bool:=
 (pz1u fuel op_1 i_1).bind fun r1=>
 if decide (kind_1=0)=true then
  some ((decide (i_1=(-1)))&&((decide (r1=0))||(decide ((band .i64 r1 16)≠0))))
 else
  if decide (kind_1=1)=true then
   (if(!machine_1)=true then(pzv fuel op_1).bind fun r2=>
   some (!r2) else some false).bind fun b1=>
   some (b1&&(decide ((band .i64 r1 3)≠0)))
  else
   if decide (kind_1=2)=true then
    some (machine_1&&(decide ((band .i64 r1 3)≠0)))
   else
    if decide (kind_1=3)=true then
     some (machine_1&&(decide ((band .i64 r1 8)≠0)))
    else
     if decide (kind_1=4)=true then
      some (decide ((band .i64 r1 4)≠0))
     else
      some false
def pz1w(fuel:Nat)(r1:Int)(x_1:Int)(out_1:List Int):Option (Ex (Int×(List Int)) ((List Int))):=
 if decide (x_1<2)=true then
  ((ix2 x_1).bind fun c1=>
  if decide ((band .i64 r1 ((⟨1,2⟩:A2 Int).at c1))≠0)=true then
   (app out_1 ([x_1]:List Int)).bind fun l1=>
   some l1
  else
   some out_1:Option ((List Int))).bind fun out_3=>
  some (.n (IntKind.wrap .i64 (x_1+1),out_3))
 else
  some (.b (x_1,out_1))
def pz1x(fuel:Nat)(op_1:Int)(i_1:Int):Option ((List Int)):=
 (pz1u fuel op_1 i_1).bind fun r1=>
 bindE (loopE fuel (fun s=>pz1w fuel r1 s.1 s.2) (0,([]:List Int))) (fun(x_2,out_2)=>
 some out_2) some
def pz1y(fuel:Nat)(op_1:Int)(i_1:Int)(classv_1:Int):Option Bool:=
 (pz1x fuel op_1 i_1).bind fun r1=>
 (pz14 fuel r1 classv_1).bind fun r2=>
 some r2
def pz1z(fuel:Nat)(c_1:zW)(i_1:Ins)(atv_1:Int)(o_1:Opd):Option Int:=
 (pz1t fuel (⟨23,(⟨0,0,0,0⟩:Opd),([o_1]:List Opd),(⟨#[]⟩:ByteArray),0,[],[]⟩:Ins)).bind fun r1=>
 (if(!r1)=true then some true else(pz1v fuel i_1.op atv_1 o_1.kind false).bind fun r2=>
 some (!r2)).bind fun b1=>
 if b1=true then
  some 36
 else
  if decide (o_1.kind≠1)=true then
   some 0
  else
   (pzf fuel c_1.f o_1.n).bind fun(r3,r4)=>
   if(!r4)=true then
    some 38
   else
    (pz1y fuel i_1.op atv_1 r3).bind fun r5=>
    if(!r5)=true then
     some 37
    else
     some 0
def pz20(fuel:Nat)(c_1:zW)(i_1:Ins)(l1:List Opd)(x_1:Int):Option (Ex Int Int):=
 if decide (x_1<(l1.length:Int))=true then
  (idx l1 x_1).bind fun x1=>
  (pz1z fuel c_1 i_1 (IntKind.wrap .i64 (x_1-1)) x1).bind fun r6=>
  if decide (r6≠0)=true then
   some (.r (r6))
  else
   some (.n (IntKind.wrap .i64 (x_1+1)))
 else
  some (.b x_1)
def pz21(fuel:Nat)(c_1:zW)(i_1:Ins)(x_3:Int):Option (Ex Int Int):=
 if decide (x_3<(i_1.labels.length:Int))=true then
  (idx i_1.labels x_3).bind fun x2=>
  (pzq fuel c_1.f x2).bind fun r7=>
  if decide (r7=(-1))=true then
   some (.r (32))
  else
   if decide (r7=0)=true then
    some (.r (33))
   else
    some (.n (IntKind.wrap .i64 (x_3+1)))
 else
  some (.b x_3)
def pz22(fuel:Nat)(c_1:zW)(i_1:Ins)(last_1:Bool):Option Int:=
 (pzu fuel i_1.op).bind fun r1=>
 (if(!r1)=true then some true else(pzv fuel i_1.op).bind fun r2=>
 some r2).bind fun b1=>
 (if b1=true then some true else(pzw fuel i_1.op).bind fun r3=>
 some (r3 !=last_1)).bind fun b2=>
 if b2=true then
  some 34
 else
  (pz11 fuel i_1).bind fun r4=>
  if(!r4)=true then
   some 35
  else
   if decide (64<(i_1.name.size:Int))=true then
    some 3
   else
    (if(decide (16<(i_1.cases.length:Int)))=true then some true else(pz16 fuel i_1.cases).bind fun r5=>
    some r5).bind fun b3=>
    if b3=true then
     some 41
    else
     (app ([i_1.dst]:List Opd) i_1.args).bind fun l1=>
     bindE (loopE fuel (fun s=>pz20 fuel c_1 i_1 l1 s) 0) (fun x_2=>
     bindE (loopE fuel (fun s=>pz21 fuel c_1 i_1 s) 0) (fun x_4=>
     some 0) some) some
def pz23(fuel:Nat)(c_1:zW)(x_1:Int)(x1:Bl)(x_3:Int):Option (Ex Int (Ex Int zd)):=
 if decide (x_3<(x1.code.length:Int))=true then
  (idx x1.code x_3).bind fun x2=>
  (pz22 fuel c_1 x2 (decide (x_3=(IntKind.wrap .i64 ((x1.code.length:Int)-1))))).bind fun r1=>
  if decide (r1≠0)=true then
   some (.r (.r ((⟨r1,x_1,x_3⟩:zd))))
  else
   some (.n (IntKind.wrap .i64 (x_3+1)))
 else
  some (.b x_3)
def pz24(fuel:Nat)(c_1:zW)(x_1:Int):Option (Ex Int zd):=
 if decide (x_1<(c_1.f.blocks.length:Int))=true then
  (idx c_1.f.blocks x_1).bind fun x1=>
  if decide ((x1.code.length:Int)=0)=true then
   some (.r ((⟨34,x_1,(-1)⟩:zd)))
  else
   bindE (loopE fuel (fun s=>pz23 fuel c_1 x_1 x1 s) 0) (fun x_4=>
   some (.n (IntKind.wrap .i64 (x_1+1)))) some
 else
  some (.b x_1)
def pz25(fuel:Nat)(c_1:zW):Option zd:=
 bindE (loopE fuel (fun s=>pz24 fuel c_1 s) 0) (fun x_2=>
 (pza fuel).bind fun r2=>
 some r2) some
def pz26(fuel:Nat)(b_1:Bl):Option (Ins×Bool):=
 if decide ((b_1.code.length:Int)=0)=true then
  some ((⟨0,(⟨0,0,0,0⟩:Opd),[],(⟨#[]⟩:ByteArray),0,[],[]⟩:Ins),false)
 else
  (idx b_1.code (IntKind.wrap .i64 ((b_1.code.length:Int)-1))).bind fun x1=>
  (pzw fuel x1.op).bind fun r1=>
  some (x1,r1)
def pz27(fuel:Nat)(f_1:Fnc)(x_1:Int)(r1:Ins)(c7:List (List Int))(c8:List (List Int))(x_3:Int):Option (Ex ((List (List Int))×(List (List Int))×Int) ((List (List Int))×(List (List Int)))):=
 if decide (x_3<(r1.labels.length:Int))=true then
  ((idx r1.labels x_3).bind fun x2=>
  (pzq fuel f_1 x2).bind fun r3=>
  (if(decide (0≤r3))=true then(idx c7 x_1).bind fun x3=>
  (pz14 fuel x3 r3).bind fun r5=>
  some (!r5) else some false).bind fun b1=>
  if b1=true then
   (idx c7 x_1).bind fun x4=>
   (app x4 ([r3]:List Int)).bind fun l3=>
   (setI c7 x_1 l3).bind fun l4=>
   (idx c8 r3).bind fun x5=>
   (app x5 ([x_1]:List Int)).bind fun l5=>
   (setI c8 r3 l5).bind fun l6=>
   some (l4,l6)
  else
   some (c7,c8):Option ((List (List Int))×(List (List Int)))).bind fun(c11,c12)=>
  some (.n (c11,c12,IntKind.wrap .i64 (x_3+1)))
 else
  some (.b (c7,c8,x_3))
def pz28(fuel:Nat)(f_1:Fnc)(x_1:Int)(c1:List (List Int))(c2:List (List Int)):Option (Ex (Int×(List (List Int))×(List (List Int))) zq):=
 if decide (x_1<(f_1.blocks.length:Int))=true then
  ((idx f_1.blocks x_1).bind fun x1=>
  (pz26 fuel x1).bind fun(r1,r2)=>
  if(!r2)=true then
   some (c1,c2)
  else
   bindE (loopE fuel (fun s=>pz27 fuel f_1 x_1 r1 s.1 s.2.1 s.2.2) (c1,c2,0)) (fun(c9,c10,x_4)=>
   some (c9,c10)) some:Option ((List (List Int))×(List (List Int)))).bind fun(c5,c6)=>
  some (.n (IntKind.wrap .i64 (x_1+1),c5,c6))
 else
  some (.b (x_1,c1,c2))
def pz29(fuel:Nat)(f_1:Fnc):Option zq:=
 (mk (f_1.blocks.length:Int) ([]:List Int)).bind fun l1=>
 (mk (f_1.blocks.length:Int) ([]:List Int)).bind fun l2=>
 bindE (loopE fuel (fun s=>pz28 fuel f_1 s.1 s.2.1 s.2.2) (0,l1,l2)) (fun(x_2,c3,c4)=>
 some (⟨c3,c4⟩:zq)) some
def pz2a(fuel:Nat)(g_1:zq):Option Int:=
 some (g_1.succ.length:Int)
def pz2b(fuel:Nat)(s_1:zJ)(i_1:Int):Option Bool:=
 some ((decide (0≤i_1))&&(decide (i_1<s_1.n)))
def pz2c(fuel:Nat)(s_1:zJ)(i_1:Int):Option Bool:=
 (pz2b fuel s_1 i_1).bind fun r1=>
 (if r1=true then(idx s_1.words (IntKind.wrap .i64 (Int.tdiv i_1 64))).bind fun x1=>
 (shr .u64 x1 (Int.tmod i_1 64)).bind fun x2=>
 some (decide ((band .u64 x2 1)=1)) else some false).bind fun b1=>
 some b1
def pz2d(fuel:Nat)(nv_1:Int):Option zJ:=
 (mk (IntKind.wrap .i64 (Int.tdiv (IntKind.wrap .i64 ((IntKind.wrap .i64 ((if 0>nv_1 then 0 else nv_1)+64))-1)) 64)) (0:Int)).bind fun l1=>
 some (⟨(if 0>nv_1 then 0 else nv_1),l1⟩:zJ)
def pz2e(fuel:Nat)(s_1:zJ)(i_1:Int):Option (Bool×zJ):=
 (pz2b fuel s_1 i_1).bind fun r1=>
 (if(!r1)=true then some true else(pz2c fuel s_1 i_1).bind fun r2=>
 some r2).bind fun b1=>
 if b1=true then
  some (false,s_1)
 else
  (idx s_1.words (IntKind.wrap .i64 (Int.tdiv i_1 64))).bind fun x1=>
  (shl .u64 1 (Int.tmod i_1 64)).bind fun x2=>
  (setI s_1.words (IntKind.wrap .i64 (Int.tdiv i_1 64)) (bor .u64 x1 x2)).bind fun l1=>
  some (true,(⟨s_1.n,l1⟩:zJ))
def pz2f(fuel:Nat)(i_1:Int)(p_1:zJ)(p_2:List (A2 Int)):Option (zJ×(List (A2 Int))):=
 (pz2e fuel p_1 i_1).bind fun(r1,m1)=>
 if r1=true then
  (app p_2 ([(⟨i_1,0⟩:A2 Int)]:List (A2 Int))).bind fun l1=>
  some (m1,l1)
 else
  some (m1,p_2)
def pz2g(fuel:Nat)(g_1:zq)(out_1:List Int)(steps_1:List (A2 Int))(c1:zJ):Option (Ex ((List Int)×(List (A2 Int))×zJ) ((List Int))):=
 if decide (0<(steps_1.length:Int))=true then
  (idx steps_1 (IntKind.wrap .i64 ((steps_1.length:Int)-1))).bind fun x1=>
  (idx g_1.succ x1.a0).bind fun x2=>
  if decide (x1.a1=(x2.length:Int))=true then
   (sli steps_1 0 (IntKind.wrap .i64 ((steps_1.length:Int)-1))).bind fun l1=>
   (app out_1 ([x1.a0]:List Int)).bind fun l2=>
   some (.n (l2,l1,c1))
  else
   (setI steps_1 (IntKind.wrap .i64 ((steps_1.length:Int)-1)) (⟨x1.a0,IntKind.wrap .i64 (x1.a1+1)⟩:A2 Int)).bind fun l3=>
   (idx x2 x1.a1).bind fun x3=>
   (pz2f fuel x3 c1 l3).bind fun(m4,m5)=>
   some (.n (out_1,m5,m4))
 else
  some (.b (out_1,steps_1,c1))
def pz2h(fuel:Nat)(g_1:zq):Option ((List Int)):=
 (pz2a fuel g_1).bind fun r1=>
 (pz2d fuel r1).bind fun r2=>
 (pz2f fuel 0 r2 ([]:List (A2 Int))).bind fun(m1,m2)=>
 bindE (loopE fuel (fun s=>pz2g fuel g_1 s.1 s.2.1 s.2.2) (([]:List Int),m2,m1)) (fun(out_2,steps_2,c2)=>
 some out_2) some
def pz2i(fuel:Nat)(s_2:List Int)(i_1:Int)(j_1:Int):Option (Ex ((List Int)×Int×Int) ((List Int))):=
 if decide (i_1<j_1)=true then
  (idx s_2 j_1).bind fun x1=>
  (idx s_2 i_1).bind fun x2=>
  (setI s_2 i_1 x1).bind fun l1=>
  (idx l1 j_1).bind fun x3=>
  (setI l1 j_1 x2).bind fun l2=>
  some (.n (l2,IntKind.wrap .i64 (i_1+1),IntKind.wrap .i64 (j_1-1)))
 else
  some (.b (s_2,i_1,j_1))
def pz2j(fuel:Nat)(s_1:List Int):Option ((List Int)):=
 bindE (loopE fuel (fun s=>pz2i fuel s.1 s.2.1 s.2.2) (s_1,0,IntKind.wrap .i64 ((s_1.length:Int)-1))) (fun(s_3,i_2,j_2)=>
 some s_3) some
def pz2k(fuel:Nat)(g_1:zq):Option ((List Int)):=
 (pz2a fuel g_1).bind fun r1=>
 if decide (r1=0)=true then
  some ([]:List Int)
 else
  (pz2h fuel g_1).bind fun r2=>
  (pz2j fuel r2).bind fun m1=>
  some m1
def pz2l(fuel:Nat)(l_1:List Int)(x_1:Int)(s_1:zJ):Option (Ex (Int×zJ) zJ):=
 if decide (x_1<(l_1.length:Int))=true then
  (idx l_1 x_1).bind fun x1=>
  (pz2e fuel s_1 x1).bind fun(r2,m2)=>
  some (.n (IntKind.wrap .i64 (x_1+1),m2))
 else
  some (.b (x_1,s_1))
def pz2m(fuel:Nat)(nv_1:Int)(l_1:List Int):Option zJ:=
 (pz2d fuel nv_1).bind fun r1=>
 bindE (loopE fuel (fun s=>pz2l fuel l_1 s.1 s.2) (0,r1)) (fun(x_2,s_2)=>
 some s_2) some
def pz2n(fuel:Nat)(g_1:zq):Option zJ:=
 (pz2a fuel g_1).bind fun r1=>
 (pz2k fuel g_1).bind fun r2=>
 (pz2m fuel r1 r2).bind fun r3=>
 some r3
def pz2o(fuel:Nat)(c_1:zW)(r2:zJ)(x_1:Int):Option (Ex Int zd):=
 if decide (x_1<(c_1.f.blocks.length:Int))=true then
  (pz2c fuel r2 x_1).bind fun r3=>
  if(!r3)=true then
   some (.r ((⟨39,x_1,(-1)⟩:zd)))
  else
   some (.n (IntKind.wrap .i64 (x_1+1)))
 else
  some (.b x_1)
def pz2p(fuel:Nat)(c_1:zW):Option zd:=
 (pz29 fuel c_1.f).bind fun r1=>
 (pz2n fuel r1).bind fun r2=>
 bindE (loopE fuel (fun s=>pz2o fuel c_1 r2 s) 0) (fun x_2=>
 (pza fuel).bind fun r4=>
 some r4) some
def pz2q(fuel:Nat)(l:List Int):Option (List Int):=if l.length≤4294967296 then some (isort l) else none
def pz2r(fuel:Nat)(l:List Int):Option (List Int):=if l.length≤4294967296 then some (Lib.compact l) else none
def pz2s(fuel:Nat)(x_1:Int):Option Bool:=
 some (decide (x_1≠x_1))
def pz2t(fuel:Nat)(x_1:Int)(y_1:Int):Option Bool:=
 (pz2s fuel x_1).bind fun r1=>
 (if r1=true then(pz2s fuel y_1).bind fun r2=>
 some (!r2) else some false).bind fun b1=>
 some (b1||(decide (x_1<y_1)))
def pz2u(fuel:Nat)(x_1:Int):Option Bool:=
 some (decide (x_1≠x_1))
def pz2v(fuel:Nat)(x_1:List Int)(target_1:Int)(i_1:Int)(j_1:Int):Option (Ex (Int×Int) (Int×Bool)):=
 if decide (i_1<j_1)=true then
  (shr .u64 (IntKind.wrap .u64 (IntKind.wrap .i64 (i_1+j_1))) 1).bind fun x1=>
  (idx x_1 (IntKind.wrap .i64 x1)).bind fun x2=>
  (pz2t fuel x2 target_1).bind fun r1=>
  if r1=true then
   some (.n (IntKind.wrap .i64 ((IntKind.wrap .i64 x1)+1),j_1))
  else
   some (.n (i_1,IntKind.wrap .i64 x1))
 else
  some (.b (i_1,j_1))
def pz2w(fuel:Nat)(x_1:List Int)(target_1:Int):Option (Int×Bool):=
 bindE (loopE fuel (fun s=>pz2v fuel x_1 target_1 s.1 s.2) (0,(x_1.length:Int))) (fun(i_2,j_2)=>
 (if(decide (i_2<(x_1.length:Int)))=true then(idx x_1 i_2).bind fun x3=>
 (if(decide (x3=target_1))=true then some true else(pz2u fuel x3).bind fun r2=>
 (if r2=true then(pz2u fuel target_1).bind fun r3=>
 some r3 else some false).bind fun b1=>
 some b1).bind fun b2=>
 some b2 else some false).bind fun b3=>
 some (i_2,b3)) some
def pz2x(fuel:Nat)(k_1:zL)(v_1:Int):Option Int:=
 (pz2w fuel k_1.ids v_1).bind fun(r1,r2)=>
 if(!r2)=true then
  some (-1)
 else
  some r1
def pz2y(fuel:Nat)(r1:zJ)(x_1:Int)(s_1:zJ):Option (Ex (Int×zJ) zJ):=
 if decide (x_1<r1.n)=true then
  (pz2e fuel s_1 x_1).bind fun(r2,m2)=>
  some (.n (IntKind.wrap .i64 (x_1+1),m2))
 else
  some (.b (x_1,s_1))
def pz2z(fuel:Nat)(nv_1:Int):Option zJ:=
 (pz2d fuel nv_1).bind fun r1=>
 bindE (loopE fuel (fun s=>pz2y fuel r1 s.1 s.2) (0,r1)) (fun(x_2,s_2)=>
 some s_2) some
def pz30(fuel:Nat)(s:List Int):Option (List Int):=app [] s
def pz31(fuel:Nat)(o_1:Opd):Option (Int×Bool):=
 bindE (
  if decide (o_1.kind=1)=true then
   some (.r ((o_1.n,true)))
  else
   (if decide (o_1.kind=2)=true then
    some (decide (o_1.kind=2))
   else
    some (decide (o_1.kind=3)):Option Bool).bind fun x_1=>
   if x_1=true then
    some (.r ((o_1.tag,true)))
   else
    some (.n ())) (fun _=>
 some (0,false)) some
def pz32(fuel:Nat)(i_1:Ins):Option (Int×Bool):=
 (pz31 fuel i_1.dst).bind fun(r1,r2)=>
 some (r1,r2)
def pz33(fuel:Nat)(s_1:zJ):Option zJ:=
 (pz30 fuel s_1.words).bind fun r1=>
 some (⟨s_1.n,r1⟩:zJ)
def pz34(fuel:Nat)(k_1:zL)(s_1:zJ)(i_1:Ins):Option zJ:=
 (pz32 fuel i_1).bind fun(r1,r2)=>
 if(r2&&(decide (i_1.dst.kind=1)))=true then
  (pz2x fuel k_1 r1).bind fun r3=>
  (pz2e fuel s_1 r3).bind fun(r4,m1)=>
  some m1
 else
  some s_1
def pz35(fuel:Nat)(s:List Int):Option (List Int):=app [] s
def pz36(fuel:Nat)(g_1:zq)(i_1:Int)(which_1:Int):Option ((List Int)):=
 (if(decide (i_1<0))=true then some true else(pz2a fuel g_1).bind fun r1=>
 some (decide (r1≤i_1))).bind fun b1=>
 if b1=true then
  some ([]:List Int)
 else
  (ix2 which_1).bind fun c1=>
  (idx ((⟨g_1.succ,g_1.pred⟩:A2 (List (List Int))).at c1) i_1).bind fun x1=>
  (pz35 fuel x1).bind fun r2=>
  some r2
def pz37(fuel:Nat)(g_1:zq)(i_1:Int):Option ((List Int)):=
 (pz36 fuel g_1 i_1 0).bind fun r1=>
 some r1
def pz38(fuel:Nat)(av_1:Int)(b_1:Int):Option Int:=
 some (band .u64 av_1 b_1)
def pz39(fuel:Nat)(s_1:zJ)(k_1:Int):Option Int:=
 if decide ((IntKind.wrap .i64 (s_1.n-(IntKind.wrap .i64 (k_1*64))))<64)=true then
  (shl .u64 1 (IntKind.wrap .i64 (s_1.n-(IntKind.wrap .i64 (k_1*64))))).bind fun x1=>
  some (IntKind.wrap .u64 (x1-1))
 else
  some 18446744073709551615
def pz3a(fuel:Nat)(k_1:zL)(l1:List Ins)(x_1:Int)(s_1:zJ):Option (Ex (Int×zJ) zJ):=
 if decide (x_1<(l1.length:Int))=true then
  (idx l1 x_1).bind fun x3=>
  (pz34 fuel k_1 s_1 x3).bind fun m2=>
  some (.n (IntKind.wrap .i64 (x_1+1),m2))
 else
  some (.b (x_1,s_1))
def pz3b(fuel:Nat)(k_1:zL)(b_1:Int)(nv_1:Int):Option zJ:=
 (idx k_1.in_ b_1).bind fun x1=>
 (pz33 fuel x1).bind fun r2=>
 (idx k_1.f.blocks b_1).bind fun x2=>
 (sli x2.code 0 nv_1).bind fun l1=>
 bindE (loopE fuel (fun s=>pz3a fuel k_1 l1 s.1 s.2) (0,r2)) (fun(x_2,s_2)=>
 some s_2) some
def pz3c(fuel:Nat)(s_1:zJ)(o_1:zJ)(c2:List Int)(x_1:Int)(changed_1:Bool):Option (Ex ((List Int)×Int×Bool) (Bool×zJ)):=
 if decide (x_1<(s_1.words.length:Int))=true then
  ((idx c2 x_1).bind fun x1=>
  (if decide (x_1<(o_1.words.length:Int))=true then
   (idx o_1.words x_1).bind fun x2=>
   some x2
  else
   some 0:Option Int).bind fun b_1=>
  (pz38 fuel x1 b_1).bind fun r1=>
  (pz39 fuel (⟨s_1.n,c2⟩:zJ) x_1).bind fun r2=>
  (setI c2 x_1 (band .u64 r1 r2)).bind fun l1=>
  some (l1,(changed_1||(decide ((band .u64 r1 r2)≠x1)))):Option ((List Int)×Bool)).bind fun(c4,changed_3)=>
  some (.n (c4,IntKind.wrap .i64 (x_1+1),changed_3))
 else
  some (.b (c2,x_1,changed_1))
def pz3d(fuel:Nat)(s_1:zJ)(o_1:zJ):Option (Bool×zJ):=
 bindE (loopE fuel (fun s=>pz3c fuel s_1 o_1 s.1 s.2.1 s.2.2) (s_1.words,0,false)) (fun(c3,x_2,changed_2)=>
 some (changed_2,(⟨s_1.n,c3⟩:zJ))) some
def pz3e(fuel:Nat)(s_1:zJ)(o_1:zJ):Option (Bool×zJ):=
 (pz3d fuel s_1 o_1).bind fun(r1,m1)=>
 some (r1,m1)
def pz3f(fuel:Nat)(f_1:Fnc)(x_1:Int)(c1:List Int):Option (Ex (Int×(List Int)) zL):=
 if decide (x_1<(f_1.regs.length:Int))=true then
  (idx f_1.regs x_1).bind fun x1=>
  (app c1 ([x1.id]:List Int)).bind fun l1=>
  some (.n (IntKind.wrap .i64 (x_1+1),l1))
 else
  some (.b (x_1,c1))
def pz3g(fuel:Nat)(f_1:Fnc)(r1:List Int)(c3:List zJ)(x_3:Int):Option (Ex ((List zJ)×Int) zL):=
 if decide (x_3<(f_1.blocks.length:Int))=true then
  (pz2z fuel (r1.length:Int)).bind fun r2=>
  (app c3 [r2]).bind fun l2=>
  some (.n (l2,IntKind.wrap .i64 (x_3+1)))
 else
  some (.b (c3,x_3))
def pz3h(fuel:Nat)(f_1:Fnc)(r1:List Int)(c4:List zJ)(first_1:zJ)(x_5:Int):Option (Ex (zJ×Int) zL):=
 if decide (x_5<(f_1.params.length:Int))=true then
  ((idx f_1.params x_5).bind fun x2=>
  if decide (x2.kind=1)=true then
   (pz2x fuel (⟨f_1,r1,c4⟩:zL) x2.n).bind fun r4=>
   (pz2e fuel first_1 r4).bind fun(r5,m5)=>
   some m5
  else
   some first_1:Option zJ).bind fun first_3=>
  some (.n (first_3,IntKind.wrap .i64 (x_5+1)))
 else
  some (.b (first_1,x_5))
def pz3i(fuel:Nat)(r9:zJ)(r10:List Int)(wait_3:List Int)(x_7:Int)(k_3:zL):Option (Ex ((List Int)×Int×zL) (Ex ((List Int)×zL) zL)):=
 if decide (x_7<(r10.length:Int))=true then
  ((idx r10 x_7).bind fun x6=>
  (idx k_3.in_ x6).bind fun x7=>
  (pz3e fuel x7 r9).bind fun(r12,m8)=>
  (if r12=true then(pz14 fuel wait_3 x6).bind fun r13=>
  some (!r13) else some false).bind fun b1=>
  (setI k_3.in_ x6 m8).bind fun l5=>
  if b1=true then
   (app wait_3 ([x6]:List Int)).bind fun l6=>
   some (l6,k_3.f.machine,k_3.f.name,k_3.f.regs,k_3.f.params,k_3.f.blocks,k_3.ids,l5)
  else
   some (wait_3,k_3.f.machine,k_3.f.name,k_3.f.regs,k_3.f.params,k_3.f.blocks,k_3.ids,l5):Option ((List Int)×Bool×ByteArray×(List Rg)×(List Opd)×(List Bl)×(List Int)×(List zJ))).bind fun(wait_5,c6,c7,c8,c9,c10,c11,c12)=>
  some (.n (wait_5,IntKind.wrap .i64 (x_7+1),(⟨(⟨c6,c7,c8,c9,c10⟩:Fnc),c11,c12⟩:zL)))
 else
  some (.b (wait_3,x_7,k_3))
def pz3j(fuel:Nat)(f_1:Fnc)(r7:zq)(wait_1:List Int)(k_1:zL):Option (Ex ((List Int)×zL) zL):=
 if decide (0<(wait_1.length:Int))=true then
  (idx wait_1 0).bind fun x4=>
  (sli wait_1 1 (wait_1.length:Int)).bind fun l4=>
  (idx f_1.blocks x4).bind fun x5=>
  (pz3b fuel k_1 x4 (x5.code.length:Int)).bind fun r9=>
  (pz37 fuel r7 x4).bind fun r10=>
  bindE (loopE fuel (fun s=>pz3i fuel r9 r10 s.1 s.2.1 s.2.2) (l4,0,k_1)) (fun(wait_4,x_8,k_4)=>
  some (.n (wait_4,k_4))) some
 else
  some (.b (wait_1,k_1))
def pz3k(fuel:Nat)(f_1:Fnc):Option zL:=
 bindE (loopE fuel (fun s=>pz3f fuel f_1 s.1 s.2) (0,([]:List Int))) (fun(x_2,c2)=>
 (pz2q fuel c2).bind fun m2=>
 (pz2r fuel m2).bind fun r1=>
 bindE (loopE fuel (fun s=>pz3g fuel f_1 r1 s.1 s.2) (([]:List zJ),0)) (fun(c4,x_4)=>
 if decide ((f_1.blocks.length:Int)=0)=true then
  some (⟨f_1,r1,c4⟩:zL)
 else
  (pz2d fuel (r1.length:Int)).bind fun r3=>
  bindE (loopE fuel (fun s=>pz3h fuel f_1 r1 c4 s.1 s.2) (r3,0)) (fun(first_2,x_6)=>
  (idx c4 0).bind fun x3=>
  (setI c4 0 first_2).bind fun l3=>
  (pz29 fuel f_1).bind fun r7=>
  (pz2k fuel r7).bind fun r8=>
  bindE (loopE fuel (fun s=>pz3j fuel f_1 r7 s.1 s.2) (r8,(⟨f_1,r1,l3⟩:zL))) (fun(wait_2,k_2)=>
  some k_2) some) some) some) some
def pz3l(fuel:Nat)(k_1:zL)(x_1:Int)(x_3:Int)(s_1:zJ)(x3:Ins)(x_5:Int):Option (Ex Int (Ex (Int×zJ) (Ex Int (Int×Int×Int×Bool)))):=
 if decide (x_5<(x3.args.length:Int))=true then
  (idx x3.args x_5).bind fun x4=>
  (if(decide (x4.kind=1))=true then(pz2x fuel k_1 x4.n).bind fun r2=>
  (pz2c fuel s_1 r2).bind fun r3=>
  some (!r3) else some false).bind fun b1=>
  if b1=true then
   some (.r (.r (.r ((x_1,x_3,x4.n,true)))))
  else
   some (.n (IntKind.wrap .i64 (x_5+1)))
 else
  some (.b x_5)
def pz3m(fuel:Nat)(k_1:zL)(x_1:Int)(x2:Bl)(x_3:Int)(s_1:zJ):Option (Ex (Int×zJ) (Ex Int (Int×Int×Int×Bool))):=
 if decide (x_3<(x2.code.length:Int))=true then
  (idx x2.code x_3).bind fun x3=>
  bindE (loopE fuel (fun s=>pz3l fuel k_1 x_1 x_3 s_1 x3 s) 0) (fun x_6=>
  (pz34 fuel k_1 s_1 x3).bind fun m4=>
  some (.n (IntKind.wrap .i64 (x_3+1),m4))) some
 else
  some (.b (x_3,s_1))
def pz3n(fuel:Nat)(k_1:zL)(x_1:Int):Option (Ex Int (Int×Int×Int×Bool)):=
 if decide (x_1<(k_1.in_.length:Int))=true then
  (idx k_1.in_ x_1).bind fun x1=>
  (pz33 fuel x1).bind fun r1=>
  (idx k_1.f.blocks x_1).bind fun x2=>
  bindE (loopE fuel (fun s=>pz3m fuel k_1 x_1 x2 s.1 s.2) (0,r1)) (fun(x_4,s_2)=>
  some (.n (IntKind.wrap .i64 (x_1+1)))) some
 else
  some (.b x_1)
def pz3o(fuel:Nat)(k_1:zL):Option (Int×Int×Int×Bool):=
 bindE (loopE fuel (fun s=>pz3n fuel k_1 s) 0) (fun x_2=>
 some (0,0,0,false)) some
def pz3p(fuel:Nat)(c_1:zW):Option zd:=
 (pz3k fuel c_1.f).bind fun r1=>
 (pz3o fuel r1).bind fun(r2,r3,r4,r5)=>
 if r5=true then
  some (⟨40,r2,r3⟩:zd)
 else
  (pza fuel).bind fun r6=>
  some r6
def pz3q(fuel:Nat)(x:Nat)(a0_:zW):Option zd:=
 if x=21 then pzb fuel a0_ else if x=22 then pzd fuel a0_ else if x=23 then pzk fuel a0_ else if x=24 then pzs fuel a0_ else if x=25 then pz25 fuel a0_ else if x=26 then pz2p fuel a0_ else if x=27 then pz3p fuel a0_ else none
def pz3r(fuel:Nat)(f_1:Fnc)(x_1:Int):Option (Ex Int (Int×Int×Int)):=
 if decide (x_1<7)=true then
  (idx ([(⟨21⟩:zn),(⟨22⟩:zn),(⟨23⟩:zn),(⟨24⟩:zn),(⟨25⟩:zn),(⟨26⟩:zn),(⟨27⟩:zn)]:List zn) x_1).bind fun x1=>
  (pz3q fuel x1.look (⟨f_1⟩:zW)).bind fun r1=>
  if decide (r1.code≠0)=true then
   some (.r ((r1.code,r1.block,r1.i)))
  else
   some (.n (IntKind.wrap .i64 (x_1+1)))
 else
  some (.b x_1)
def pz3s(fuel:Nat)(f_1:Fnc):Option (Int×Int×Int):=
 bindE (loopE fuel (fun s=>pz3r fuel f_1 s) 0) (fun x_2=>
 some (0,(-1),(-1))) some
def pz3t(fuel:Nat)(f_1:Fnc):Option Bool:=
 (pz3s fuel f_1).bind fun(r1,r2,r3)=>
 some (decide (r1=0))
def pz3u(fuel:Nat):Option Bool:=
 (pz4 fuel 1).bind fun r1=>
 (pz4 fuel 2).bind fun r2=>
 (pz3s fuel (⟨false,(⟨#[102]⟩:ByteArray),([(⟨1,0⟩:Rg),(⟨2,1⟩:Rg)]:List Rg),([r1]:List Opd),([(⟨(⟨#[97]⟩:ByteArray),false,([]:List Opd),([(⟨23,(⟨0,0,0,0⟩:Opd),([r2]:List Opd),(⟨#[]⟩:ByteArray),0,([]:List ByteArray),([]:List Int)⟩:Ins)]:List Ins)⟩:Bl)]:List Bl)⟩:Fnc)).bind fun(r3,r4,r5)=>
 (pz3s fuel (⟨false,(⟨#[102]⟩:ByteArray),([(⟨1,0⟩:Rg),(⟨2,1⟩:Rg)]:List Rg),[],([(⟨(⟨#[97]⟩:ByteArray),false,([]:List Opd),([(⟨23,(⟨0,0,0,0⟩:Opd),([r1]:List Opd),(⟨#[]⟩:ByteArray),0,([]:List ByteArray),([]:List Int)⟩:Ins)]:List Ins)⟩:Bl)]:List Bl)⟩:Fnc)).bind fun(r6,r7,r8)=>
 (pz3t fuel (⟨false,(⟨#[102]⟩:ByteArray),([(⟨1,0⟩:Rg),(⟨2,1⟩:Rg)]:List Rg),([r1]:List Opd),([(⟨(⟨#[97]⟩:ByteArray),false,([]:List Opd),([(⟨23,(⟨0,0,0,0⟩:Opd),([r1]:List Opd),(⟨#[]⟩:ByteArray),0,([]:List ByteArray),([]:List Int)⟩:Ins)]:List Ins)⟩:Bl)]:List Bl)⟩:Fnc)).bind fun r9=>
 (if r9=true then(pz3t fuel (⟨false,(⟨#[102]⟩:ByteArray),([(⟨1,0⟩:Rg),(⟨2,1⟩:Rg)]:List Rg),([r1]:List Opd),([(⟨(⟨#[97]⟩:ByteArray),false,([]:List Opd),([(⟨23,(⟨0,0,0,0⟩:Opd),([r2]:List Opd),(⟨#[]⟩:ByteArray),0,([]:List ByteArray),([]:List Int)⟩:Ins)]:List Ins)⟩:Bl)]:List Bl)⟩:Fnc)).bind fun r10=>
 some (!r10) else some false).bind fun b1=>
 some ((((b1&&(decide (r3=37)))&&(decide (r4=0)))&&(decide (r5=0)))&&(decide (r6=40)))
def pz3v(fuel:Nat)(c_1:Int):Option Bool:=
 some (((decide (97≤c_1))&&(decide (c_1≤122)))||(decide (c_1=95)))
def pz3w(fuel:Nat)(s_1:ByteArray)(i1:Int):Option (Ex Unit Bool):=
 (bidx s_1 i1).bind fun c2=>
 (pz3v fuel c2).bind fun r2=>
 if((!r2)&&((decide (c2<48))||(decide (57<c2))))=true then
  some (.r (false))
 else
  some (.n ())
def pz3x(fuel:Nat)(s_1:ByteArray):Option Bool:=
 (if((decide ((s_1.size:Int)<1))||(decide (24<(s_1.size:Int))))=true then some true else(bidx s_1 0).bind fun c1=>
 (pz3v fuel c1).bind fun r1=>
 some (!r1)).bind fun b1=>
 if b1=true then
  some false
 else
  bindE (toE 1 (s_1.size:Int) (fun i _=>pz3w fuel s_1 i) ()) (fun _=>
  some true) some
def pz3y(fuel:Nat)(f_1:Fnc)(v_1:Int)(i1:Int):Option (Ex Unit Bool):=
 (idx f_1.regs i1).bind fun x1=>
 if decide (x1.id=v_1)=true then
  some (.r (true))
 else
  some (.n ())
def pz3z(fuel:Nat)(f_1:Fnc)(v_1:Int):Option Bool:=
 bindE (toE 0 (f_1.regs.length:Int) (fun i _=>pz3y fuel f_1 v_1 i) ()) (fun _=>
 some false) some
def pz40(fuel:Nat)(f_1:Fnc)(i1:Int)(nv_1:Int):Option Int:=
 (idx f_1.blocks i1).bind fun x1=>
 some (IntKind.wrap .i64 (nv_1+(x1.code.length:Int)))
def pz41(fuel:Nat)(f_1:Fnc):Option Int:=
 (toN 0 (f_1.blocks.length:Int) (fun i s=>pz40 fuel f_1 i s) 0).bind fun nv_2=>
 some nv_2
def pz42(fuel:Nat)(f_1:Fnc)(i1:Int):Option (Ex Unit Int):=
 (idx f_1.regs i1).bind fun x1=>
 (if(((decide (x1.id<0))||(decide (2147483647<x1.id)))||((decide (x1.cls≠0))&&(decide (x1.cls≠1))))=true then some true else(if(decide (0<i1))=true then(idx f_1.regs (IntKind.wrap .i64 (i1-1))).bind fun x2=>
 some (decide (x1.id≤x2.id)) else some false).bind fun b1=>
 some b1).bind fun b2=>
 if b2=true then
  some (.r (38))
 else
  some (.n ())
def pz43(fuel:Nat)(f_1:Fnc)(x3:Opd)(i3:Int):Option (Ex Unit (Ex Unit Int)):=
 (idx f_1.params i3).bind fun x4=>
 if decide (x4=x3)=true then
  some (.r (.r (31)))
 else
  some (.n ())
def pz44(fuel:Nat)(f_1:Fnc)(i2:Int):Option (Ex Unit Int):=
 (idx f_1.params i2).bind fun x3=>
 if(((decide (x3.kind≠1))||(decide (x3.cls≠0)))||(decide (x3.tag≠0)))=true then
  some (.r (36))
 else
  (pz3z fuel f_1 x3.n).bind fun r2=>
  if(!r2)=true then
   some (.r (38))
  else
   bindE (toE 0 i2 (fun i _=>pz43 fuel f_1 x3 i) ()) (fun _=>
   some (.n ())) some
def pz45(fuel:Nat)(f_1:Fnc):Option Int:=
 if f_1.machine=true then
  some 1
 else
  (pz3x fuel f_1.name).bind fun r1=>
  if(!r1)=true then
   some 42
  else
   if decide (1024<(f_1.regs.length:Int))=true then
    some 4
   else
    bindE (toE 0 (f_1.regs.length:Int) (fun i _=>pz42 fuel f_1 i) ()) (fun _=>
    bindE (toE 0 (f_1.params.length:Int) (fun i _=>pz44 fuel f_1 i) ()) (fun _=>
    if((decide ((f_1.blocks.length:Int)=0))||(decide (64<(f_1.blocks.length:Int))))=true then
     some 30
    else
     (pz41 fuel f_1).bind fun r3=>
     if decide (4096<r3)=true then
      some 4
     else
      some 0) some) some
def pz46(fuel:Nat)(f_1:Fnc)(label_1:ByteArray)(i1:Int):Option (Ex Unit Int):=
 (idx f_1.blocks i1).bind fun x1=>
 if decide (x1.label=label_1)=true then
  some (.r (i1))
 else
  some (.n ())
def pz47(fuel:Nat)(f_1:Fnc)(label_1:ByteArray):Option Int:=
 bindE (toE 0 (f_1.blocks.length:Int) (fun i _=>pz46 fuel f_1 label_1 i) ()) (fun _=>
 some (-1)) some
def pz48(fuel:Nat)(i1:Int)(out_1:List zI):Option ((List zI)):=
 (idx ([(⟨#[97,100,100]⟩:ByteArray),(⟨#[115,117,98]⟩:ByteArray),(⟨#[109,117,108]⟩:ByteArray),(⟨#[97,110,100]⟩:ByteArray),(⟨#[111,114]⟩:ByteArray),(⟨#[120,111,114]⟩:ByteArray),(⟨#[115,104,108]⟩:ByteArray),(⟨#[115,104,114]⟩:ByteArray),(⟨#[115,97,114]⟩:ByteArray),(⟨#[100,105,118]⟩:ByteArray),(⟨#[114,101,109]⟩:ByteArray),(⟨#[101,113]⟩:ByteArray),(⟨#[110,101]⟩:ByteArray),(⟨#[108,116]⟩:ByteArray),(⟨#[108,101]⟩:ByteArray)]:List ByteArray) i1).bind fun x1=>
 (app out_1 [(⟨x1,(⟨#[103]⟩:ByteArray),([(⟨#[103]⟩:ByteArray),(⟨#[103,105]⟩:ByteArray)]:List ByteArray),0,false⟩:zI)]).bind fun l1=>
 some l1
def pz49(fuel:Nat):Option ((List zI)):=
 (toN 0 15 (fun i s=>pz48 fuel i s) ([]:List zI)).bind fun out_2=>
 (app out_2 [(⟨(⟨#[99,111,112,121]⟩:ByteArray),(⟨#[103,120]⟩:ByteArray),([(⟨#[103,120,105]⟩:ByteArray)]:List ByteArray),0,false⟩:zI)]).bind fun l2=>
 (app l2 [(⟨(⟨#[108,111,97,100]⟩:ByteArray),(⟨#[103]⟩:ByteArray),([(⟨#[120]⟩:ByteArray)]:List ByteArray),0,false⟩:zI)]).bind fun l3=>
 (app l3 [(⟨(⟨#[115,116,111,114,101]⟩:ByteArray),(⟨#[]⟩:ByteArray),([(⟨#[103]⟩:ByteArray),(⟨#[120]⟩:ByteArray)]:List ByteArray),0,false⟩:zI)]).bind fun l4=>
 (app l4 [(⟨(⟨#[99,97,108,108]⟩:ByteArray),(⟨#[103,110]⟩:ByteArray),([(⟨#[103,105,115]⟩:ByteArray),(⟨#[103,105,115]⟩:ByteArray),(⟨#[103,105,115]⟩:ByteArray),(⟨#[103,105,115]⟩:ByteArray),(⟨#[103,105,115]⟩:ByteArray),(⟨#[103,105,115]⟩:ByteArray),(⟨#[103,105,115]⟩:ByteArray),(⟨#[103,105,115]⟩:ByteArray)]:List ByteArray),0,false⟩:zI)]).bind fun l5=>
 (app l5 [(⟨(⟨#[98,114]⟩:ByteArray),(⟨#[]⟩:ByteArray),([]:List ByteArray),1,false⟩:zI)]).bind fun l6=>
 (app l6 [(⟨(⟨#[98,114,105,102]⟩:ByteArray),(⟨#[]⟩:ByteArray),([(⟨#[103]⟩:ByteArray)]:List ByteArray),2,false⟩:zI)]).bind fun l7=>
 (app l7 [(⟨(⟨#[115,119,105,116,99,104]⟩:ByteArray),(⟨#[]⟩:ByteArray),([(⟨#[103]⟩:ByteArray)]:List ByteArray),(-1),false⟩:zI)]).bind fun l8=>
 (app l8 [(⟨(⟨#[114,101,116]⟩:ByteArray),(⟨#[]⟩:ByteArray),([(⟨#[103,105]⟩:ByteArray)]:List ByteArray),0,false⟩:zI)]).bind fun l9=>
 (app l9 [(⟨(⟨#[109,111,118,101]⟩:ByteArray),(⟨#[103,120]⟩:ByteArray),([(⟨#[103,120]⟩:ByteArray)]:List ByteArray),0,true⟩:zI)]).bind fun l10=>
 (app l10 [(⟨(⟨#[115,112,105,108,108]⟩:ByteArray),(⟨#[115]⟩:ByteArray),([(⟨#[103,120]⟩:ByteArray)]:List ByteArray),0,true⟩:zI)]).bind fun l11=>
 (app l11 [(⟨(⟨#[114,101,108,111,97,100]⟩:ByteArray),(⟨#[103,120]⟩:ByteArray),([(⟨#[115]⟩:ByteArray)]:List ByteArray),0,true⟩:zI)]).bind fun l12=>
 (app l12 [(⟨(⟨#[115,119,97,112]⟩:ByteArray),(⟨#[]⟩:ByteArray),([(⟨#[103,120,115]⟩:ByteArray),(⟨#[103,120,115]⟩:ByteArray)]:List ByteArray),0,true⟩:zI)]).bind fun l13=>
 some l13
def pz4a(fuel:Nat)(op_1:Int):Option (zI×Bool):=
 (pz49 fuel).bind fun r1=>
 if((decide (op_1<1))||(decide ((r1.length:Int)<op_1)))=true then
  some ((⟨(⟨#[]⟩:ByteArray),(⟨#[]⟩:ByteArray),[],0,false⟩:zI),false)
 else
  (idx r1 (IntKind.wrap .i64 (op_1-1))).bind fun x1=>
  some (x1,true)
def pz4b(fuel:Nat)(x_1:Ins)(r_1:zI):Option Bool:=
 (if decide (x_1.op=19)=true then
  some 0
 else
  some (r_1.args.length:Int):Option Int).bind fun least_1=>
 (if decide (r_1.labels<0)=true then
  some (IntKind.wrap .i64 ((x_1.cases.length:Int)+1))
 else
  some r_1.labels:Option Int).bind fun labels_1=>
 if(((decide ((x_1.args.length:Int)<least_1))||(decide ((r_1.args.length:Int)<(x_1.args.length:Int))))||(decide ((x_1.labels.length:Int)≠labels_1)))=true then
  some false
 else
  if((((decide (x_1.dst.kind=0))&&(decide (r_1.dst≠(⟨#[]⟩:ByteArray))))&&(decide (x_1.op≠19)))||((decide (x_1.dst.kind≠0))&&(decide (r_1.dst=(⟨#[]⟩:ByteArray)))))=true then
   some false
  else
   if(((decide (x_1.op≠22))&&(decide (0<(x_1.cases.length:Int))))||((decide (x_1.op≠19))&&(decide (x_1.name≠(⟨#[]⟩:ByteArray)))))=true then
    some false
   else
    some (((decide (x_1.off=0))||(decide (x_1.op=17)))||(decide (x_1.op=18)))
def pz4c(fuel:Nat)(l_1:List Int)(nv_1:Int)(i1:Int):Option (Ex Unit Bool):=
 (idx l_1 i1).bind fun x1=>
 if decide (x1=nv_1)=true then
  some (.r (true))
 else
  some (.n ())
def pz4d(fuel:Nat)(l_1:List Int)(nv_1:Int):Option Bool:=
 bindE (toE 0 (l_1.length:Int) (fun i _=>pz4c fuel l_1 nv_1 i) ()) (fun _=>
 some false) some
def pz4e(fuel:Nat)(nv_1:Int):Option Bool:=
 some ((decide (0≤nv_1))&&(decide (nv_1≤2147483647)))
def pz4f(fuel:Nat)(o_1:Opd):Option Bool:=
 if decide (o_1.kind=0)=true then
  some (decide (o_1=(⟨0,0,0,0⟩:Opd)))
 else
  if decide (o_1.kind=1)=true then
   (pz4e fuel o_1.n).bind fun r1=>
   some ((r1&&(decide (o_1.cls=0)))&&(decide (o_1.tag=0)))
  else
   if decide (o_1.kind=4)=true then
    some ((decide (o_1.cls=0))&&(decide (o_1.tag=0)))
   else
    if decide (o_1.kind=2)=true then
     (if((decide (o_1.cls=0))||(decide (o_1.cls=1)))=true then(pz4e fuel o_1.n).bind fun r2=>
     some r2 else some false).bind fun b1=>
     (if b1=true then(pz4e fuel o_1.tag).bind fun r3=>
     some r3 else some false).bind fun b2=>
     some b2
    else
     if decide (o_1.kind=3)=true then
      (if(decide (o_1.cls=0))=true then(pz4e fuel o_1.n).bind fun r4=>
      some r4 else some false).bind fun b3=>
      (if b3=true then(pz4e fuel o_1.tag).bind fun r5=>
      some r5 else some false).bind fun b4=>
      some b4
     else
      some false
def pz4g(fuel:Nat)(op_1:Int)(i_1:Int):Option ByteArray:=
 (pz4a fuel op_1).bind fun(r1,r2)=>
 if decide (i_1=(-1))=true then
  some r1.dst
 else
  if((decide (0≤i_1))&&(decide (i_1<(r1.args.length:Int))))=true then
   (idx r1.args i_1).bind fun x1=>
   some x1
  else
   some (⟨#[]⟩:ByteArray)
def pz4h(fuel:Nat)(s_1:ByteArray)(c_1:Int)(i1:Int):Option (Ex Unit Bool):=
 (bidx s_1 i1).bind fun c1=>
 if decide (c1=c_1)=true then
  some (.r (true))
 else
  some (.n ())
def pz4i(fuel:Nat)(s_1:ByteArray)(c_1:Int):Option Bool:=
 bindE (toE 0 (s_1.size:Int) (fun i _=>pz4h fuel s_1 c_1 i) ()) (fun _=>
 some false) some
def pz4j(fuel:Nat)(op_1:Int)(i_1:Int)(kind_1:Int)(machine_1:Bool):Option Bool:=
 (pz4g fuel op_1 i_1).bind fun r1=>
 (pz4a fuel op_1).bind fun(r2,r3)=>
 (pz4i fuel r1 103).bind fun r4=>
 (if r4=true then some true else(pz4i fuel r1 120).bind fun r5=>
 some r5).bind fun b1=>
 if decide (kind_1=0)=true then
  (if(decide (i_1=(-1)))=true then(if(decide (r1=(⟨#[]⟩:ByteArray)))=true then some true else(pz4i fuel r1 110).bind fun r6=>
  some r6).bind fun b2=>
  some b2 else some false).bind fun b3=>
  some b3
 else
  if decide (kind_1=1)=true then
   some (((!machine_1)&&(!r2.alone))&&b1)
  else
   if decide (kind_1=2)=true then
    some (machine_1&&b1)
   else
    if decide (kind_1=3)=true then
     (if machine_1=true then(pz4i fuel r1 115).bind fun r7=>
     some r7 else some false).bind fun b4=>
     some b4
    else
     if decide (kind_1=4)=true then
      (pz4i fuel r1 105).bind fun r8=>
      some r8
     else
      some false
def pz4k(fuel:Nat)(f_1:Fnc)(v_1:Int)(i1:Int):Option (Ex Unit Int):=
 (idx f_1.regs i1).bind fun x1=>
 if decide (x1.id=v_1)=true then
  some (.r (x1.cls))
 else
  some (.n ())
def pz4l(fuel:Nat)(f_1:Fnc)(v_1:Int):Option Int:=
 bindE (toE 0 (f_1.regs.length:Int) (fun i _=>pz4k fuel f_1 v_1 i) ()) (fun _=>
 some (-1)) some
def pz4m(fuel:Nat)(op_1:Int)(i_1:Int)(classv_1:Int):Option Bool:=
 (if(decide (classv_1=0))=true then(pz4g fuel op_1 i_1).bind fun r1=>
 (pz4i fuel r1 103).bind fun r2=>
 some r2 else some false).bind fun b1=>
 (if b1=true then some true else(if(decide (classv_1=1))=true then(pz4g fuel op_1 i_1).bind fun r3=>
 (pz4i fuel r3 120).bind fun r4=>
 some r4 else some false).bind fun b2=>
 some b2).bind fun b3=>
 some b3
def pz4n(fuel:Nat)(f_1:Fnc)(x_1:Ins)(l1:List Opd)(i_1:Int):Option (Ex Int Int):=
 if decide (i_1<(l1.length:Int))=true then
  (idx l1 i_1).bind fun x1=>
  (pz4f fuel x1).bind fun r1=>
  (if(!r1)=true then some true else(pz4j fuel x_1.op (IntKind.wrap .i64 (i_1-1)) x1.kind false).bind fun r2=>
  some (!r2)).bind fun b1=>
  if b1=true then
   some (.r (36))
  else
   (if(decide (x1.kind=1))=true then(pz3z fuel f_1 x1.n).bind fun r3=>
   some (!r3) else some false).bind fun b2=>
   if b2=true then
    some (.r (38))
   else
    (if(decide (x1.kind=1))=true then(pz4l fuel f_1 x1.n).bind fun r4=>
    (pz4m fuel x_1.op (IntKind.wrap .i64 (i_1-1)) r4).bind fun r5=>
    some (!r5) else some false).bind fun b3=>
    if b3=true then
     some (.r (37))
    else
     some (.n (IntKind.wrap .i64 (i_1+1)))
 else
  some (.b i_1)
def pz4o(fuel:Nat)(f_1:Fnc)(x_1:Ins):Option Int:=
 (app ([x_1.dst]:List Opd) x_1.args).bind fun l1=>
 bindE (loopE fuel (fun s=>pz4n fuel f_1 x_1 l1 s) 0) (fun i_2=>
 some 0) some
def pz4p(fuel:Nat)(x_1:Ins)(i1:Int):Option (Ex Unit Int):=
 (if(decide (16<(x_1.cases.length:Int)))=true then some true else(sli x_1.cases 0 i1).bind fun l1=>
 (idx x_1.cases i1).bind fun x1=>
 (pz4d fuel l1 x1).bind fun r4=>
 some r4).bind fun b1=>
 if b1=true then
  some (.r (41))
 else
  some (.n ())
def pz4q(fuel:Nat)(f_1:Fnc)(x_1:Ins)(i2:Int):Option (Ex Unit Int):=
 (idx x_1.labels i2).bind fun x2=>
 (pz47 fuel f_1 x2).bind fun r6=>
 if decide (r6<0)=true then
  some (.r (32))
 else
  if decide (r6=0)=true then
   some (.r (33))
  else
   some (.n ())
def pz4r(fuel:Nat)(f_1:Fnc)(x_1:Ins)(last_1:Bool):Option Int:=
 (pz4a fuel x_1.op).bind fun(r1,r2)=>
 if(((!r2)||r1.alone)||(last_1 !=((decide (20≤x_1.op))&&(decide (x_1.op≤23)))))=true then
  some 34
 else
  (pz4b fuel x_1 r1).bind fun r3=>
  if(!r3)=true then
   some 35
  else
   if decide (64<(x_1.name.size:Int))=true then
    some 3
   else
    bindE (toE 0 (x_1.cases.length:Int) (fun i _=>pz4p fuel x_1 i) ()) (fun _=>
    (pz4o fuel f_1 x_1).bind fun r5=>
    if decide (r5≠0)=true then
     some r5
    else
     bindE (toE 0 (x_1.labels.length:Int) (fun i _=>pz4q fuel f_1 x_1 i) ()) (fun _=>
     some 0) some) some
def pz4s(fuel:Nat)(f_1:Fnc)(x4:Ins)(i2:Int)(l_2:List Int):Option ((List Int)):=
 (idx x4.labels i2).bind fun x5=>
 (pz47 fuel f_1 x5).bind fun r1=>
 (if(decide (0≤r1))=true then(pz4d fuel l_2 r1).bind fun r2=>
 some (!r2) else some false).bind fun b3=>
 if b3=true then
  (app l_2 ([r1]:List Int)).bind fun l1=>
  some l1
 else
  some l_2
def pz4t(fuel:Nat)(f_1:Fnc)(i1:Int)(out_1:List (List Int)):Option ((List (List Int))):=
 (idx f_1.blocks i1).bind fun x1=>
 ((if(decide (0<(x1.code.length:Int)))=true then(idx x1.code (IntKind.wrap .i64 ((x1.code.length:Int)-1))).bind fun x2=>
 some (decide (20≤x2.op)) else some false).bind fun b1=>
 (if b1=true then(idx x1.code (IntKind.wrap .i64 ((x1.code.length:Int)-1))).bind fun x3=>
 some (decide (x3.op≤23)) else some false).bind fun b2=>
 if b2=true then
  (idx x1.code (IntKind.wrap .i64 ((x1.code.length:Int)-1))).bind fun x4=>
  (toN 0 (x4.labels.length:Int) (fun i s=>pz4s fuel f_1 x4 i s) ([]:List Int)).bind fun l_3=>
  some l_3
 else
  some ([]:List Int):Option ((List Int))).bind fun l_1=>
 (app out_1 ([l_1]:List (List Int))).bind fun l2=>
 some l2
def pz4u(fuel:Nat)(f_1:Fnc):Option ((List (List Int))):=
 (toN 0 (f_1.blocks.length:Int) (fun i s=>pz4t fuel f_1 i s) ([]:List (List Int))).bind fun out_2=>
 some out_2
def pz4v(fuel:Nat)(succ_1:List (List Int))(without_1:Int)(i2:Int)(k_1:Int)(seen_5:List Bool):Option (Ex (Int×(List Bool)) ((List Bool))):=
 (idx seen_5 i2).bind fun x2=>
 (if x2=true then(idx succ_1 i2).bind fun x3=>
 some (decide (k_1<(x3.length:Int))) else some false).bind fun b1=>
 if b1=true then
  ((idx succ_1 i2).bind fun x4=>
  (idx x4 k_1).bind fun x5=>
  if decide (x5≠without_1)=true then
   (idx seen_5 x5).bind fun x6=>
   (setI seen_5 x5 true).bind fun l3=>
   some l3
  else
   some seen_5:Option ((List Bool))).bind fun seen_7=>
  some (.n (IntKind.wrap .i64 (k_1+1),seen_7))
 else
  some (.b (k_1,seen_5))
def pz4w(fuel:Nat)(succ_1:List (List Int))(without_1:Int)(i2:Int)(seen_3:List Bool):Option ((List Bool)):=
 bindE (loopE fuel (fun s=>pz4v fuel succ_1 without_1 i2 s.1 s.2) (0,seen_3)) (fun(k_2,seen_6)=>
 some seen_6) some
def pz4x(fuel:Nat)(succ_1:List (List Int))(without_1:Int)(i1:Int)(seen_1:List Bool):Option ((List Bool)):=
 (toN 0 (succ_1.length:Int) (fun i s=>pz4w fuel succ_1 without_1 i s) seen_1).bind fun seen_4=>
 some seen_4
def pz4y(fuel:Nat)(succ_1:List (List Int))(fromv_1:Int)(without_1:Int):Option ((List Bool)):=
 (mk (succ_1.length:Int) (false:Bool)).bind fun l1=>
 if(((decide (fromv_1<0))||(decide ((succ_1.length:Int)≤fromv_1)))||(decide (fromv_1=without_1)))=true then
  some l1
 else
  (idx l1 fromv_1).bind fun x1=>
  (setI l1 fromv_1 true).bind fun l2=>
  (toN 0 (succ_1.length:Int) (fun i s=>pz4x fuel succ_1 without_1 i s) l2).bind fun seen_2=>
  some seen_2
def pz4z(fuel:Nat)(f_1:Fnc)(b_1:Int)(v_1:Int)(i1:Int):Option (Ex Unit Bool):=
 (idx f_1.blocks b_1).bind fun x1=>
 (idx x1.code i1).bind fun x2=>
 if((decide (x2.dst.kind=1))&&(decide (x2.dst.n=v_1)))=true then
  some (.r (true))
 else
  some (.n ())
def pz50(fuel:Nat)(f_1:Fnc)(b_1:Int)(nv_1:Int)(v_1:Int):Option Bool:=
 bindE (toE 0 nv_1 (fun i _=>pz4z fuel f_1 b_1 v_1 i) ()) (fun _=>
 some false) some
def pz51(fuel:Nat)(f_1:Fnc)(v_1:Int)(i1:Int)(out_1:List Bool):Option ((List Bool)):=
 (idx f_1.params i1).bind fun x2=>
 if((decide (x2.kind=1))&&(decide (x2.n=v_1)))=true then
  (idx out_1 0).bind fun x3=>
  (setI out_1 0 false).bind fun l3=>
  some l3
 else
  some out_1
def pz52(fuel:Nat)(x6:List Int)(i4:Int)(out_8:List Bool):Option ((List Bool)):=
 (idx x6 i4).bind fun x7=>
 (idx out_8 x7).bind fun x8=>
 (setI out_8 x7 true).bind fun l4=>
 some l4
def pz53(fuel:Nat)(f_1:Fnc)(v_1:Int)(r1:List (List Int))(out_5:List Bool)(b_1:Int):Option (Ex ((List Bool)×Int) (Ex ((List Bool)×Int) ((List Bool)))):=
 if decide (b_1<(out_5.length:Int))=true then
  ((idx out_5 b_1).bind fun x4=>
  (if(!x4)=true then some true else(idx f_1.blocks b_1).bind fun x5=>
  (pz50 fuel f_1 b_1 (x5.code.length:Int) v_1).bind fun r2=>
  some r2).bind fun b1=>
  if b1=true then
   some out_5
  else
   (idx r1 b_1).bind fun x6=>
   (toN 0 (x6.length:Int) (fun i s=>pz52 fuel x6 i s) out_5).bind fun out_9=>
   some out_9:Option ((List Bool))).bind fun out_7=>
  some (.n (out_7,IntKind.wrap .i64 (b_1+1)))
 else
  some (.b (out_5,b_1))
def pz54(fuel:Nat)(f_1:Fnc)(v_1:Int)(r1:List (List Int))(out_3:List Bool)(nv_1:Int):Option (Ex ((List Bool)×Int) ((List Bool))):=
 if decide (nv_1<(out_3.length:Int))=true then
  bindE (loopE fuel (fun s=>pz53 fuel f_1 v_1 r1 s.1 s.2) (out_3,0)) (fun(out_6,b_2)=>
  some (.n (out_6,IntKind.wrap .i64 (nv_1+1)))) some
 else
  some (.b (out_3,nv_1))
def pz55(fuel:Nat)(f_1:Fnc)(v_1:Int):Option ((List Bool)):=
 (mk (f_1.blocks.length:Int) (false:Bool)).bind fun l1=>
 if decide ((l1.length:Int)=0)=true then
  some l1
 else
  (idx l1 0).bind fun x1=>
  (setI l1 0 true).bind fun l2=>
  (toN 0 (f_1.params.length:Int) (fun i s=>pz51 fuel f_1 v_1 i s) l2).bind fun out_2=>
  (pz4u fuel f_1).bind fun r1=>
  bindE (loopE fuel (fun s=>pz54 fuel f_1 v_1 r1 s.1 s.2) (out_2,0)) (fun(out_4,nv_2)=>
  some out_4) some
def pz56(fuel:Nat)(f_1:Fnc)(i1:Int)(i2:Int)(x2:Ins)(i3:Int):Option (Ex Unit (Ex Unit (Ex Unit (Int×Int×Int)))):=
 (idx x2.args i3).bind fun x3=>
 (if(decide (x3.kind=1))=true then(pz3z fuel f_1 x3.n).bind fun r1=>
 (if r1=true then(pz55 fuel f_1 x3.n).bind fun r2=>
 (idx r2 i1).bind fun x4=>
 (if(!x4)=true then some true else(pz50 fuel f_1 i1 i2 x3.n).bind fun r3=>
 some r3).bind fun b1=>
 some b1 else some false).bind fun b2=>
 some (!b2) else some false).bind fun b3=>
 if b3=true then
  some (.r (.r (.r ((i1,i2,x3.n)))))
 else
  some (.n ())
def pz57(fuel:Nat)(f_1:Fnc)(i1:Int)(x1:Bl)(i2:Int):Option (Ex Unit (Ex Unit (Int×Int×Int))):=
 (idx x1.code i2).bind fun x2=>
 bindE (toE 0 (x2.args.length:Int) (fun i _=>pz56 fuel f_1 i1 i2 x2 i) ()) (fun _=>
 some (.n ())) some
def pz58(fuel:Nat)(f_1:Fnc)(i1:Int):Option (Ex Unit (Int×Int×Int)):=
 (idx f_1.blocks i1).bind fun x1=>
 bindE (toE 0 (x1.code.length:Int) (fun i _=>pz57 fuel f_1 i1 x1 i) ()) (fun _=>
 some (.n ())) some
def pz59(fuel:Nat)(f_1:Fnc):Option (Int×Int×Int):=
 bindE (toE 0 (f_1.blocks.length:Int) (fun i _=>pz58 fuel f_1 i) ()) (fun _=>
 some ((-1),(-1),(-1))) some
def pz5a(fuel:Nat)(f_1:Fnc)(i1:Int):Option (Ex Unit (Int×Int×Int)):=
 (idx f_1.blocks i1).bind fun x1=>
 (pz3x fuel x1.label).bind fun r2=>
 if(((!r2)||x1.edge)||(decide (0<(x1.ins.length:Int))))=true then
  some (.r ((42,i1,(-1))))
 else
  (pz47 fuel f_1 x1.label).bind fun r3=>
  if decide (r3≠i1)=true then
   some (.r ((31,i1,(-1))))
  else
   some (.n ())
def pz5b(fuel:Nat)(f_1:Fnc)(i2:Int)(x2:Bl)(i3:Int):Option (Ex Unit (Ex Unit (Int×Int×Int))):=
 (idx x2.code i3).bind fun x3=>
 (pz4r fuel f_1 x3 (decide (i3=(IntKind.wrap .i64 ((x2.code.length:Int)-1))))).bind fun r4=>
 if decide (r4≠0)=true then
  some (.r (.r ((r4,i2,i3))))
 else
  some (.n ())
def pz5c(fuel:Nat)(f_1:Fnc)(i2:Int):Option (Ex Unit (Int×Int×Int)):=
 (idx f_1.blocks i2).bind fun x2=>
 if decide ((x2.code.length:Int)=0)=true then
  some (.r ((34,i2,(-1))))
 else
  bindE (toE 0 (x2.code.length:Int) (fun i _=>pz5b fuel f_1 i2 x2 i) ()) (fun _=>
  some (.n ())) some
def pz5d(fuel:Nat)(r6:List Bool)(i4:Int):Option (Ex Unit (Int×Int×Int)):=
 (idx r6 i4).bind fun x4=>
 if(!x4)=true then
  some (.r ((39,i4,(-1))))
 else
  some (.n ())
def pz5e(fuel:Nat)(f_1:Fnc):Option (Int×Int×Int):=
 (pz45 fuel f_1).bind fun r1=>
 if decide (r1≠0)=true then
  some (r1,(-1),(-1))
 else
  bindE (toE 0 (f_1.blocks.length:Int) (fun i _=>pz5a fuel f_1 i) ()) (fun _=>
  bindE (toE 0 (f_1.blocks.length:Int) (fun i _=>pz5c fuel f_1 i) ()) (fun _=>
  (pz4u fuel f_1).bind fun r5=>
  (pz4y fuel r5 0 (-1)).bind fun r6=>
  bindE (toE 0 (r6.length:Int) (fun i _=>pz5d fuel r6 i) ()) (fun _=>
  (pz59 fuel f_1).bind fun(r7,r8,r9)=>
  if decide (0≤r7)=true then
   some (40,r7,r8)
  else
   some (0,(-1),(-1))) some) some) some
def pz5f(fuel:Nat)(f_1:Fnc):Option Bool:=
 (pz3 fuel f_1).bind fun r1=>
 if r1=true then
  (pz3u fuel).bind fun r2=>
  some r2
 else
  (pz3s fuel f_1).bind fun(r3,r4,r5)=>
  (pz5e fuel f_1).bind fun(r6,r7,r8)=>
  (if(((decide (r3=r6))&&(decide (r4=r7)))&&(decide (r5=r8)))=true then(pz3t fuel f_1).bind fun r9=>
  some (r9==(decide (r3=0))) else some false).bind fun b1=>
  (if b1=true then(pz3u fuel).bind fun r10=>
  some r10 else some false).bind fun b2=>
  some b2
end Go.Proofs.YtmogcnnhbmaffaaGreat.PL
