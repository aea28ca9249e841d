/- Functions of the program as pure ones. Printed by tq.py. -/
import Derived.Test.YtmogcnnhbmaffaaGreatPD
import Derived.Test.YtmogcnnhbmaffaaGreatPM
set_option linter.unusedVariables false
namespace Go.Proofs.YtmogcnnhbmaffaaGreat.PL
open Go
def pz0(fuel:Nat)(nv_1:Int):Option Opd:=
 some (⟨1,0,nv_1,0⟩:Opd)
def pz1(fuel:Nat)(code_1:Int):Option zW:=
 some (⟨code_1,(-1),(-1)⟩:zW)
def pz2(fuel:Nat)(c_1:Int):Option Bool:=
 some (((decide (97≤c_1))&&(decide (c_1≤122)))||(decide (c_1=95)))
def pz3(fuel:Nat)(c_1:Int):Option Bool:=
 (pz2 fuel c_1).bind fun r1=>
 some (r1||((decide (48≤c_1))&&(decide (c_1≤57))))
def pz4(fuel:Nat)(s_1:ByteArray)(x_1:Int):Option (Ex Int Bool):=
 if decide (x_1<(s_1.size:Int))=true then
  (bidx s_1 x_1).bind fun c2=>
  (pz3 fuel c2).bind fun r2=>
  if(!r2)=true then
   some (.r (false))
  else
   some (.n (IntKind.wrap .i64 (x_1+1)))
 else
  some (.b x_1)
def pz5(fuel:Nat)(s_1:ByteArray):Option Bool:=
 (if((decide (s_1=(⟨#[]⟩:ByteArray)))||(decide (24<(s_1.size:Int))))=true then some true else(bidx s_1 0).bind fun c1=>
 (pz2 fuel c1).bind fun r1=>
 some (!r1)).bind fun b1=>
 if b1=true then
  some false
 else
  bindE (loopE fuel (fun s=>pz4 fuel s_1 s) 0) (fun x_2=>
  some true) some
def pz6(fuel:Nat):Option zW:=
 some (⟨0,(-1),(-1)⟩:zW)
def pz7(fuel:Nat)(c_1:zT):Option zW:=
 if c_1.f.machine=true then
  (pz1 fuel 1).bind fun r1=>
  some r1
 else
  (pz5 fuel c_1.f.name).bind fun r2=>
  if(!r2)=true then
   (pz1 fuel 42).bind fun r3=>
   some r3
  else
   (pz6 fuel).bind fun r4=>
   some r4
def pz8(fuel:Nat)(c_1:zT)(x_1:Int):Option (Ex Int zW):=
 if decide (x_1<(c_1.f.regs.length:Int))=true then
  (idx c_1.f.regs x_1).bind fun x1=>
  (if((((decide (x1.id<0))||(decide (2147483647<x1.id)))||(decide (x1.cls<0)))||(decide (2≤x1.cls)))=true then some true else(if(decide (0<x_1))=true then(idx c_1.f.regs (IntKind.wrap .i64 (x_1-1))).bind fun x2=>
  some (decide (x1.id≤x2.id)) else some false).bind fun b1=>
  some b1).bind fun b2=>
  if b2=true then
   (pz1 fuel 38).bind fun r2=>
   some (.r (r2))
  else
   some (.n (IntKind.wrap .i64 (x_1+1)))
 else
  some (.b x_1)
def pz9(fuel:Nat)(c_1:zT):Option zW:=
 if decide (1024<(c_1.f.regs.length:Int))=true then
  (pz1 fuel 4).bind fun r1=>
  some r1
 else
  bindE (loopE fuel (fun s=>pz8 fuel c_1 s) 0) (fun x_2=>
  (pz6 fuel).bind fun r3=>
  some r3) some
def pza(fuel:Nat)(f_1:Fnc)(v_1:Int)(x_1:Int):Option (Ex Int (Int×Bool)):=
 if decide (x_1<(f_1.regs.length:Int))=true then
  (idx f_1.regs x_1).bind fun x1=>
  if decide (x1.id=v_1)=true then
   some (.r ((x1.cls,true)))
  else
   some (.n (IntKind.wrap .i64 (x_1+1)))
 else
  some (.b x_1)
def pzb(fuel:Nat)(f_1:Fnc)(v_1:Int):Option (Int×Bool):=
 bindE (loopE fuel (fun s=>pza fuel f_1 v_1 s) 0) (fun x_2=>
 some (0,false)) some
def pzc(fuel:Nat)(s_1:List Opd)(v_1:Opd)(x_1:Int):Option (Ex Int Int):=
 if decide (x_1<(s_1.length:Int))=true then
  (idx s_1 x_1).bind fun x1=>
  if decide (v_1=x1)=true then
   some (.r (x_1))
  else
   some (.n (IntKind.wrap .i64 (x_1+1)))
 else
  some (.b x_1)
def pzd(fuel:Nat)(s_1:List Opd)(v_1:Opd):Option Int:=
 bindE (loopE fuel (fun s=>pzc fuel s_1 v_1 s) 0) (fun x_2=>
 some (-1)) some
def pze(fuel:Nat)(s_1:List Opd)(v_1:Opd):Option Bool:=
 (pzd fuel s_1 v_1).bind fun r1=>
 some (decide (0≤r1))
def pzf(fuel:Nat)(c_1:zT)(x_1:Int):Option (Ex Int zW):=
 if decide (x_1<(c_1.f.params.length:Int))=true then
  (idx c_1.f.params x_1).bind fun x1=>
  (pzb fuel c_1.f x1.n).bind fun(r1,r2)=>
  if(!decide (x1=(⟨1,0,x1.n,0⟩:Opd)))=true then
   (pz1 fuel 36).bind fun r3=>
   some (.r (r3))
  else
   if(!r2)=true then
    (pz1 fuel 38).bind fun r4=>
    some (.r (r4))
   else
    (sli c_1.f.params 0 x_1).bind fun l1=>
    (pze fuel l1 x1).bind fun r5=>
    if r5=true then
     (pz1 fuel 31).bind fun r6=>
     some (.r (r6))
    else
     some (.n (IntKind.wrap .i64 (x_1+1)))
 else
  some (.b x_1)
def pzg(fuel:Nat)(c_1:zT):Option zW:=
 bindE (loopE fuel (fun s=>pzf fuel c_1 s) 0) (fun x_2=>
 (pz6 fuel).bind fun r7=>
 some r7) some
def pzh(fuel:Nat)(f_1:Fnc)(nv_1:Int)(x_1:Int):Option (Ex (Int×Int) Int):=
 if decide (x_1<(f_1.blocks.length:Int))=true then
  (idx f_1.blocks x_1).bind fun x1=>
  some (.n (IntKind.wrap .i64 (nv_1+(x1.code.length:Int)),IntKind.wrap .i64 (x_1+1)))
 else
  some (.b (nv_1,x_1))
def pzi(fuel:Nat)(f_1:Fnc):Option Int:=
 bindE (loopE fuel (fun s=>pzh fuel f_1 s.1 s.2) (0,0)) (fun(nv_2,x_2)=>
 some nv_2) some
def pzj(fuel:Nat)(b_1:Bl)(p_1:ByteArray):Option Bool:=
 some (decide (b_1.label=p_1))
def pzk(fuel:Nat)(s_1:List Bl)(w1:ByteArray)(x_1:Int):Option (Ex Int Int):=
 if decide (x_1<(s_1.length:Int))=true then
  (idx s_1 x_1).bind fun x1=>
  (pzj fuel x1 w1).bind fun r1=>
  if r1=true then
   some (.r (x_1))
  else
   some (.n (IntKind.wrap .i64 (x_1+1)))
 else
  some (.b x_1)
def pzl(fuel:Nat)(s_1:List Bl)(w1:ByteArray):Option Int:=
 bindE (loopE fuel (fun s=>pzk fuel s_1 w1 s) 0) (fun x_2=>
 some (-1)) some
def pzm(fuel:Nat)(f_1:Fnc)(label_1:ByteArray):Option Int:=
 (pzl fuel f_1.blocks label_1).bind fun r1=>
 some r1
def pzn(fuel:Nat)(c_1:zT)(x_1:Int):Option (Ex Int zW):=
 if decide (x_1<(c_1.f.blocks.length:Int))=true then
  (idx c_1.f.blocks x_1).bind fun x1=>
  (pz5 fuel x1.label).bind fun r4=>
  if(((!r4)||x1.edge)||(decide (0<(x1.ins.length:Int))))=true then
   some (.r ((⟨42,x_1,(-1)⟩:zW)))
  else
   (pzm fuel c_1.f x1.label).bind fun r5=>
   if decide (r5<x_1)=true then
    some (.r ((⟨31,x_1,(-1)⟩:zW)))
   else
    some (.n (IntKind.wrap .i64 (x_1+1)))
 else
  some (.b x_1)
def pzo(fuel:Nat)(c_1:zT):Option zW:=
 if((decide ((c_1.f.blocks.length:Int)=0))||(decide (64<(c_1.f.blocks.length:Int))))=true then
  (pz1 fuel 30).bind fun r1=>
  some r1
 else
  (pzi fuel c_1.f).bind fun r2=>
  if decide (4096<r2)=true then
   (pz1 fuel 4).bind fun r3=>
   some r3
  else
   bindE (loopE fuel (fun s=>pzn fuel c_1 s) 0) (fun x_2=>
   (pz6 fuel).bind fun r6=>
   some r6) some
def pzp(fuel:Nat)(op_1:Int):Option (yN×Bool):=
 if((decide (1≤op_1))&&(decide (op_1≤15)))=true then
  (idx [(⟨#[97,100,100]⟩:ByteArray),(⟨#[115,117,98]⟩:ByteArray),(⟨#[109,117,108]⟩:ByteArray),(⟨#[97,110,100]⟩:ByteArray),(⟨#[111,114]⟩:ByteArray),(⟨#[120,111,114]⟩:ByteArray),(⟨#[115,104,108]⟩:ByteArray),(⟨#[115,104,114]⟩:ByteArray),(⟨#[115,97,114]⟩:ByteArray),(⟨#[100,105,118]⟩:ByteArray),(⟨#[114,101,109]⟩:ByteArray),(⟨#[101,113]⟩:ByteArray),(⟨#[110,101]⟩:ByteArray),(⟨#[108,116]⟩:ByteArray),(⟨#[108,101]⟩:ByteArray)] (IntKind.wrap .i64 (op_1-1))).bind fun x1=>
  some ((⟨x1,1,(⟨1,5⟩:A2 Int),0,false⟩:yN),true)
 else
  if decide (op_1=16)=true then
   some ((⟨(⟨#[99,111,112,121]⟩:ByteArray),3,(⟨7,0⟩:A2 Int),0,false⟩:yN),true)
  else
   if decide (op_1=17)=true then
    some ((⟨(⟨#[108,111,97,100]⟩:ByteArray),1,(⟨2,0⟩:A2 Int),0,false⟩:yN),true)
   else
    if decide (op_1=18)=true then
     some ((⟨(⟨#[115,116,111,114,101]⟩:ByteArray),0,(⟨1,2⟩:A2 Int),0,false⟩:yN),true)
    else
     if decide (op_1=19)=true then
      some ((⟨(⟨#[99,97,108,108]⟩:ByteArray),17,(⟨13,0⟩:A2 Int),0,false⟩:yN),true)
     else
      if decide (op_1=20)=true then
       some ((⟨(⟨#[98,114]⟩:ByteArray),0,(⟨0,0⟩:A2 Int),1,false⟩:yN),true)
      else
       if decide (op_1=21)=true then
        some ((⟨(⟨#[98,114,105,102]⟩:ByteArray),0,(⟨1,0⟩:A2 Int),2,false⟩:yN),true)
       else
        if decide (op_1=22)=true then
         some ((⟨(⟨#[115,119,105,116,99,104]⟩:ByteArray),0,(⟨1,0⟩:A2 Int),(-1),false⟩:yN),true)
        else
         if decide (op_1=23)=true then
          some ((⟨(⟨#[114,101,116]⟩:ByteArray),0,(⟨5,0⟩:A2 Int),0,false⟩:yN),true)
         else
          if decide (op_1=24)=true then
           some ((⟨(⟨#[109,111,118,101]⟩:ByteArray),3,(⟨3,0⟩:A2 Int),0,true⟩:yN),true)
          else
           if decide (op_1=25)=true then
            some ((⟨(⟨#[115,112,105,108,108]⟩:ByteArray),8,(⟨3,0⟩:A2 Int),0,true⟩:yN),true)
           else
            if decide (op_1=26)=true then
             some ((⟨(⟨#[114,101,108,111,97,100]⟩:ByteArray),3,(⟨8,0⟩:A2 Int),0,true⟩:yN),true)
            else
             if decide (op_1=27)=true then
              some ((⟨(⟨#[115,119,97,112]⟩:ByteArray),0,(⟨11,11⟩:A2 Int),0,true⟩:yN),true)
             else
              some ((⟨(⟨#[]⟩:ByteArray),0,(⟨0,0⟩:A2 Int),0,false⟩:yN),false)
def pzq(fuel:Nat)(op_1:Int):Option Bool:=
 (pzp fuel op_1).bind fun(r1,r2)=>
 some r2
def pzr(fuel:Nat)(op_1:Int):Option Bool:=
 (pzp fuel op_1).bind fun(r1,r2)=>
 some r1.machine
def pzs(fuel:Nat)(op_1:Int):Option Bool:=
 some ((decide (20≤op_1))&&(decide (op_1≤23)))
def pzt(fuel:Nat)(r1:yN)(nv_1:Int):Option (Ex Int (Int×Int)):=
 (if(decide (nv_1<2))=true then(ix2 nv_1).bind fun c1=>
 some (decide ((r1.args.at c1)≠0)) else some false).bind fun b1=>
 if b1=true then
  some (.n (IntKind.wrap .i64 (nv_1+1)))
 else
  some (.b nv_1)
def pzu(fuel:Nat)(op_1:Int):Option (Int×Int):=
 (pzp fuel op_1).bind fun(r1,r2)=>
 if decide (op_1=19)=true then
  some (0,8)
 else
  if(!r2)=true then
   some (0,0)
  else
   bindE (loopE fuel (fun s=>pzt fuel r1 s) 0) (fun nv_2=>
   some (nv_2,nv_2)) some
def pzv(fuel:Nat)(op_1:Int):Option (Bool×Bool):=
 (pzp fuel op_1).bind fun(r1,r2)=>
 some (((decide (r1.dst≠0))&&(decide ((band .i64 r1.dst 16)=0))),decide (r1.dst≠0))
def pzw(fuel:Nat)(op_1:Int)(cases_1:Int):Option Int:=
 (pzp fuel op_1).bind fun(r1,r2)=>
 if decide (r1.labels<0)=true then
  some (IntKind.wrap .i64 (cases_1+1))
 else
  some r1.labels
def pzx(fuel:Nat)(i_1:Ins):Option Bool:=
 (pzu fuel i_1.op).bind fun(r1,r2)=>
 (pzv fuel i_1.op).bind fun(r3,r4)=>
 (if((((decide (r1≤(i_1.args.length:Int)))&&(decide ((i_1.args.length:Int)≤r2)))&&((decide (i_1.dst.kind≠0))||(!r3)))&&(r4||(!(decide (i_1.dst.kind≠0)))))=true then(pzw fuel i_1.op (i_1.cases.length:Int)).bind fun r5=>
 some (decide ((i_1.labels.length:Int)=r5)) else some false).bind fun b1=>
 some (((b1&&((decide (i_1.op=22))||(decide ((i_1.cases.length:Int)=0))))&&((decide (i_1.op=19))||(decide (i_1.name=(⟨#[]⟩:ByteArray)))))&&(((decide (i_1.op=17))||(decide (i_1.op=18)))||(decide (i_1.off=0))))
def pzy(fuel:Nat)(s_1:List Int)(v_1:Int)(x_1:Int):Option (Ex Int Int):=
 if decide (x_1<(s_1.length:Int))=true then
  (idx s_1 x_1).bind fun x1=>
  if decide (v_1=x1)=true then
   some (.r (x_1))
  else
   some (.n (IntKind.wrap .i64 (x_1+1)))
 else
  some (.b x_1)
def pzz(fuel:Nat)(s_1:List Int)(v_1:Int):Option Int:=
 bindE (loopE fuel (fun s=>pzy fuel s_1 v_1 s) 0) (fun x_2=>
 some (-1)) some
def pz10(fuel:Nat)(s_1:List Int)(v_1:Int):Option Bool:=
 (pzz fuel s_1 v_1).bind fun r1=>
 some (decide (0≤r1))
def pz11(fuel:Nat)(l_1:List Int)(x_1:Int):Option (Ex Int Bool):=
 if decide (x_1<(l_1.length:Int))=true then
  (idx l_1 x_1).bind fun x1=>
  (sli l_1 0 x_1).bind fun l1=>
  (pz10 fuel l1 x1).bind fun r1=>
  if r1=true then
   some (.r (true))
  else
   some (.n (IntKind.wrap .i64 (x_1+1)))
 else
  some (.b x_1)
def pz12(fuel:Nat)(l_1:List Int):Option Bool:=
 bindE (loopE fuel (fun s=>pz11 fuel l_1 s) 0) (fun x_2=>
 some false) some
def pz13(fuel:Nat)(o_1:Opd):Option Bool:=
 some ((decide (o_1.cls=0))&&(decide (o_1.tag=0)))
def pz14(fuel:Nat)(nv_1:Int):Option Bool:=
 some ((decide (0≤nv_1))&&(decide (nv_1≤2147483647)))
def pz15(fuel:Nat)(classv_1:Int):Option ByteArray:=
 if((decide (classv_1<0))||(decide (2≤classv_1)))=true then
  some (⟨#[]⟩:ByteArray)
 else
  (bsli (⟨#[103,120]⟩:ByteArray) classv_1 (IntKind.wrap .i64 (classv_1+1))).bind fun s2=>
  some s2
def pz16(fuel:Nat)(nv_1:Int):Option Bool:=
 (pz15 fuel nv_1).bind fun r1=>
 some (decide (r1≠(⟨#[]⟩:ByteArray)))
def pz17(fuel:Nat)(o_1:Opd):Option Bool:=
 if decide (o_1.kind=0)=true then
  (pz13 fuel o_1).bind fun r1=>
  some (r1&&(decide (o_1.n=0)))
 else
  if decide (o_1.kind=1)=true then
   (pz13 fuel o_1).bind fun r2=>
   (if r2=true then(pz14 fuel o_1.n).bind fun r3=>
   some r3 else some false).bind fun b1=>
   some b1
  else
   if decide (o_1.kind=4)=true then
    (pz13 fuel o_1).bind fun r4=>
    some r4
   else
    if decide (o_1.kind=2)=true then
     (pz16 fuel o_1.cls).bind fun r5=>
     (if r5=true then(pz14 fuel o_1.n).bind fun r6=>
     some r6 else some false).bind fun b2=>
     (if b2=true then(pz14 fuel o_1.tag).bind fun r7=>
     some r7 else some false).bind fun b3=>
     some b3
    else
     if decide (o_1.kind=3)=true then
      (if(decide (o_1.cls=0))=true then(pz14 fuel o_1.n).bind fun r8=>
      some r8 else some false).bind fun b4=>
      (if b4=true then(pz14 fuel o_1.tag).bind fun r9=>
      some r9 else some false).bind fun b5=>
      some b5
     else
      some false
def pz18(fuel:Nat)(o_1:Opd):Option Bool:=
 (if(decide (o_1.kind≠4))=true then(pz17 fuel o_1).bind fun r1=>
 some r1 else some false).bind fun b1=>
 some b1
def pz19(fuel:Nat)(x:Nat)(a0_:Opd):Option Bool:=
 if x=115 then pz17 fuel a0_ else none
def pz1a(fuel:Nat)(o_1:Opd)(p_1:Nat):Option Bool:=
 (pz19 fuel p_1 o_1).bind fun r1=>
 some (!r1)
def pz1b(fuel:Nat)(s_1:List Opd)(w1:Nat)(x_1:Int):Option (Ex Int Int):=
 if decide (x_1<(s_1.length:Int))=true then
  (idx s_1 x_1).bind fun x1=>
  (pz1a fuel x1 w1).bind fun r1=>
  if r1=true then
   some (.r (x_1))
  else
   some (.n (IntKind.wrap .i64 (x_1+1)))
 else
  some (.b x_1)
def pz1c(fuel:Nat)(s_1:List Opd)(w1:Nat):Option Int:=
 bindE (loopE fuel (fun s=>pz1b fuel s_1 w1 s) 0) (fun x_2=>
 some (-1)) some
def pz1d(fuel:Nat)(s_1:List Opd)(w1:Nat):Option Bool:=
 (pz1c fuel s_1 w1).bind fun r1=>
 some (decide (0≤r1))
def pz1e(fuel:Nat)(l_1:List Opd):Option Bool:=
 (pz1d fuel l_1 115).bind fun r1=>
 some (!r1)
def pz1f(fuel:Nat)(s_1:ByteArray)(x_1:Int):Option (Ex Int (ByteArray×ByteArray×Bool)):=
 if decide (x_1<(s_1.size:Int))=true then
  (bidx s_1 x_1).bind fun c1=>
  if decide (c1=46)=true then
   (bsli s_1 0 x_1).bind fun s2=>
   (bsli s_1 (IntKind.wrap .i64 (x_1+1)) (s_1.size:Int)).bind fun s3=>
   (pz5 fuel s2).bind fun r1=>
   (if(!r1)=true then some true else(pz5 fuel s3).bind fun r2=>
   some (!r2)).bind fun b1=>
   if b1=true then
    some (.r (((⟨#[]⟩:ByteArray),(⟨#[]⟩:ByteArray),false)))
   else
    some (.r ((s2,s3,true)))
  else
   some (.n (IntKind.wrap .i64 (x_1+1)))
 else
  some (.b x_1)
def pz1g(fuel:Nat)(s_1:ByteArray):Option (ByteArray×ByteArray×Bool):=
 bindE (loopE fuel (fun s=>pz1f fuel s_1 s) 0) (fun x_2=>
 some ((⟨#[]⟩:ByteArray),(⟨#[]⟩:ByteArray),false)) some
def pz1h(fuel:Nat)(s_1:ByteArray)(edge_1:Bool):Option Bool:=
 if(!edge_1)=true then
  (pz5 fuel s_1).bind fun r1=>
  some r1
 else
  (pz1g fuel s_1).bind fun(r2,r3,r4)=>
  some r4
def pz1i(fuel:Nat)(s_1:ByteArray):Option Bool:=
 (pz1h fuel s_1 false).bind fun r1=>
 (if r1=true then some true else(pz1h fuel s_1 true).bind fun r2=>
 some r2).bind fun b1=>
 some b1
def pz1j(fuel:Nat)(s_1:ByteArray):Option Bool:=
 (pz1i fuel s_1).bind fun r1=>
 some (!r1)
def pz1k(fuel:Nat)(s_1:List ByteArray)(x_1:Int):Option (Ex Int Int):=
 if decide (x_1<(s_1.length:Int))=true then
  (idx s_1 x_1).bind fun x1=>
  (pz1j fuel x1).bind fun r1=>
  if r1=true then
   some (.r (x_1))
  else
   some (.n (IntKind.wrap .i64 (x_1+1)))
 else
  some (.b x_1)
def pz1l(fuel:Nat)(s_1:List ByteArray):Option Int:=
 bindE (loopE fuel (fun s=>pz1k fuel s_1 s) 0) (fun x_2=>
 some (-1)) some
def pz1m(fuel:Nat)(s_1:List ByteArray):Option Bool:=
 (pz1l fuel s_1).bind fun r1=>
 some (decide (0≤r1))
def pz1n(fuel:Nat)(i_1:Ins):Option Bool:=
 if((decide (i_1.op≠22))&&(decide (0<(i_1.cases.length:Int))))=true then
  some false
 else
  (pzw fuel i_1.op (i_1.cases.length:Int)).bind fun r1=>
  (if(decide ((i_1.labels.length:Int)=r1))=true then(pz1m fuel i_1.labels).bind fun r2=>
  some (!r2) else some false).bind fun b1=>
  some b1
def pz1o(fuel:Nat)(i_1:Ins):Option Bool:=
 some ((((decide (i_1.op=19))&&(decide ((i_1.name.size:Int)≤64)))||(decide (i_1.name=(⟨#[]⟩:ByteArray))))&&(((decide (i_1.op=17))||(decide (i_1.op=18)))||(decide (i_1.off=0))))
def pz1p(fuel:Nat)(i_1:Ins):Option Bool:=
 (pzu fuel i_1.op).bind fun(r1,r2)=>
 (pzq fuel i_1.op).bind fun r3=>
 (if(r3&&((decide ((i_1.args.length:Int)=r1))||((decide (i_1.op=19))&&(decide (0<r2)))))=true then(pz18 fuel i_1.dst).bind fun r4=>
 some r4 else some false).bind fun b1=>
 (if b1=true then(pz1e fuel i_1.args).bind fun r5=>
 some r5 else some false).bind fun b2=>
 (if b2=true then(pz1n fuel i_1).bind fun r6=>
 some r6 else some false).bind fun b3=>
 (if b3=true then(pz1o fuel i_1).bind fun r7=>
 some r7 else some false).bind fun b4=>
 some b4
def pz1q(fuel:Nat)(op_1:Int)(i_1:Int):Option Int:=
 (pzp fuel op_1).bind fun(r1,r2)=>
 if decide (i_1=(-1))=true then
  some r1.dst
 else
  if(((decide (op_1=19))&&(decide (0≤i_1)))&&(decide (i_1<8)))=true then
   some r1.args.a0
  else
   if((decide (0≤i_1))&&(decide (i_1<2)))=true then
    (ix2 i_1).bind fun c1=>
    some (r1.args.at c1)
   else
    some 0
def pz1r(fuel:Nat)(op_1:Int)(i_1:Int)(kind_1:Int)(machine_1:Bool):Option Bool:=
 (pz1q fuel op_1 i_1).bind fun r1=>
 if decide (kind_1=0)=true then
  some ((decide (i_1=(-1)))&&((decide (r1=0))||(decide ((band .i64 r1 16)≠0))))
 else
  if decide (kind_1=1)=true then
   (if(!machine_1)=true then(pzr fuel op_1).bind fun r2=>
   some (!r2) else some false).bind fun b1=>
   some (b1&&(decide ((band .i64 r1 3)≠0)))
  else
   if decide (kind_1=2)=true then
    some (machine_1&&(decide ((band .i64 r1 3)≠0)))
   else
    if decide (kind_1=3)=true then
     some (machine_1&&(decide ((band .i64 r1 8)≠0)))
    else
     if decide (kind_1=4)=true then
      some (decide ((band .i64 r1 4)≠0))
     else
      some false
def pz1s(fuel:Nat)(r1:Int)(x_1:Int)(out_1:List Int):Option (Ex (Int×(List Int)) ((List Int))):=
 if decide (x_1<2)=true then
  ((ix2 x_1).bind fun c1=>
  if decide ((band .i64 r1 ((⟨1,2⟩:A2 Int).at c1))≠0)=true then
   (app out_1 ([x_1]:List Int)).bind fun l1=>
   some l1
  else
   some out_1:Option ((List Int))).bind fun out_3=>
  some (.n (IntKind.wrap .i64 (x_1+1),out_3))
 else
  some (.b (x_1,out_1))
def pz1t(fuel:Nat)(op_1:Int)(i_1:Int):Option ((List Int)):=
 (pz1q fuel op_1 i_1).bind fun r1=>
 bindE (loopE fuel (fun s=>pz1s fuel r1 s.1 s.2) (0,([]:List Int))) (fun(x_2,out_2)=>
 some out_2) some
def pz1u(fuel:Nat)(op_1:Int)(i_1:Int)(classv_1:Int):Option Bool:=
 (pz1t fuel op_1 i_1).bind fun r1=>
 (pz10 fuel r1 classv_1).bind fun r2=>
 some r2
def pz1v(fuel:Nat)(c_1:zT)(i_1:Ins)(atv_1:Int)(o_1:Opd):Option Int:=
 (pz1p fuel (⟨23,(⟨0,0,0,0⟩:Opd),([o_1]:List Opd),(⟨#[]⟩:ByteArray),0,[],[]⟩:Ins)).bind fun r1=>
 (if(!r1)=true then some true else(pz1r fuel i_1.op atv_1 o_1.kind false).bind fun r2=>
 some (!r2)).bind fun b1=>
 if b1=true then
  some 36
 else
  if decide (o_1.kind≠1)=true then
   some 0
  else
   (pzb fuel c_1.f o_1.n).bind fun(r3,r4)=>
   if(!r4)=true then
    some 38
   else
    (pz1u fuel i_1.op atv_1 r3).bind fun r5=>
    if(!r5)=true then
     some 37
    else
     some 0
def pz1w(fuel:Nat)(c_1:zT)(i_1:Ins)(l1:List Opd)(x_1:Int):Option (Ex Int Int):=
 if decide (x_1<(l1.length:Int))=true then
  (idx l1 x_1).bind fun x1=>
  (pz1v fuel c_1 i_1 (IntKind.wrap .i64 (x_1-1)) x1).bind fun r6=>
  if decide (r6≠0)=true then
   some (.r (r6))
  else
   some (.n (IntKind.wrap .i64 (x_1+1)))
 else
  some (.b x_1)
def pz1x(fuel:Nat)(c_1:zT)(i_1:Ins)(x_3:Int):Option (Ex Int Int):=
 if decide (x_3<(i_1.labels.length:Int))=true then
  (idx i_1.labels x_3).bind fun x2=>
  (pzm fuel c_1.f x2).bind fun r7=>
  if decide (r7=(-1))=true then
   some (.r (32))
  else
   if decide (r7=0)=true then
    some (.r (33))
   else
    some (.n (IntKind.wrap .i64 (x_3+1)))
 else
  some (.b x_3)
def pz1y(fuel:Nat)(c_1:zT)(i_1:Ins)(last_1:Bool):Option Int:=
 (pzq fuel i_1.op).bind fun r1=>
 (if(!r1)=true then some true else(pzr fuel i_1.op).bind fun r2=>
 some r2).bind fun b1=>
 (if b1=true then some true else(pzs fuel i_1.op).bind fun r3=>
 some (r3 !=last_1)).bind fun b2=>
 if b2=true then
  some 34
 else
  (pzx fuel i_1).bind fun r4=>
  if(!r4)=true then
   some 35
  else
   if decide (64<(i_1.name.size:Int))=true then
    some 3
   else
    (if(decide (16<(i_1.cases.length:Int)))=true then some true else(pz12 fuel i_1.cases).bind fun r5=>
    some r5).bind fun b3=>
    if b3=true then
     some 41
    else
     (app ([i_1.dst]:List Opd) i_1.args).bind fun l1=>
     bindE (loopE fuel (fun s=>pz1w fuel c_1 i_1 l1 s) 0) (fun x_2=>
     bindE (loopE fuel (fun s=>pz1x fuel c_1 i_1 s) 0) (fun x_4=>
     some 0) some) some
def pz1z(fuel:Nat)(c_1:zT)(x_1:Int)(x1:Bl)(x_3:Int):Option (Ex Int (Ex Int zW)):=
 if decide (x_3<(x1.code.length:Int))=true then
  (idx x1.code x_3).bind fun x2=>
  (pz1y fuel c_1 x2 (decide (x_3=(IntKind.wrap .i64 ((x1.code.length:Int)-1))))).bind fun r1=>
  if decide (r1≠0)=true then
   some (.r (.r ((⟨r1,x_1,x_3⟩:zW))))
  else
   some (.n (IntKind.wrap .i64 (x_3+1)))
 else
  some (.b x_3)
def pz20(fuel:Nat)(c_1:zT)(x_1:Int):Option (Ex Int zW):=
 if decide (x_1<(c_1.f.blocks.length:Int))=true then
  (idx c_1.f.blocks x_1).bind fun x1=>
  if decide ((x1.code.length:Int)=0)=true then
   some (.r ((⟨34,x_1,(-1)⟩:zW)))
  else
   bindE (loopE fuel (fun s=>pz1z fuel c_1 x_1 x1 s) 0) (fun x_4=>
   some (.n (IntKind.wrap .i64 (x_1+1)))) some
 else
  some (.b x_1)
def pz21(fuel:Nat)(c_1:zT):Option zW:=
 bindE (loopE fuel (fun s=>pz20 fuel c_1 s) 0) (fun x_2=>
 (pz6 fuel).bind fun r2=>
 some r2) some
def pz22(fuel:Nat)(b_1:Bl):Option (Ins×Bool):=
 if decide ((b_1.code.length:Int)=0)=true then
  some ((⟨0,(⟨0,0,0,0⟩:Opd),[],(⟨#[]⟩:ByteArray),0,[],[]⟩:Ins),false)
 else
  (idx b_1.code (IntKind.wrap .i64 ((b_1.code.length:Int)-1))).bind fun x1=>
  (pzs fuel x1.op).bind fun r1=>
  some (x1,r1)
def pz23(fuel:Nat)(f_1:Fnc)(x_1:Int)(r1:Ins)(c7:List (List Int))(c8:List (List Int))(x_3:Int):Option (Ex ((List (List Int))×(List (List Int))×Int) ((List (List Int))×(List (List Int)))):=
 if decide (x_3<(r1.labels.length:Int))=true then
  ((idx r1.labels x_3).bind fun x2=>
  (pzm fuel f_1 x2).bind fun r3=>
  (if(decide (0≤r3))=true then(idx c7 x_1).bind fun x3=>
  (pz10 fuel x3 r3).bind fun r5=>
  some (!r5) else some false).bind fun b1=>
  if b1=true then
   (idx c7 x_1).bind fun x4=>
   (app x4 ([r3]:List Int)).bind fun l3=>
   (setI c7 x_1 l3).bind fun l4=>
   (idx c8 r3).bind fun x5=>
   (app x5 ([x_1]:List Int)).bind fun l5=>
   (setI c8 r3 l5).bind fun l6=>
   some (l4,l6)
  else
   some (c7,c8):Option ((List (List Int))×(List (List Int)))).bind fun(c11,c12)=>
  some (.n (c11,c12,IntKind.wrap .i64 (x_3+1)))
 else
  some (.b (c7,c8,x_3))
def pz24(fuel:Nat)(f_1:Fnc)(x_1:Int)(c1:List (List Int))(c2:List (List Int)):Option (Ex (Int×(List (List Int))×(List (List Int))) zo):=
 if decide (x_1<(f_1.blocks.length:Int))=true then
  ((idx f_1.blocks x_1).bind fun x1=>
  (pz22 fuel x1).bind fun(r1,r2)=>
  if(!r2)=true then
   some (c1,c2)
  else
   bindE (loopE fuel (fun s=>pz23 fuel f_1 x_1 r1 s.1 s.2.1 s.2.2) (c1,c2,0)) (fun(c9,c10,x_4)=>
   some (c9,c10)) some:Option ((List (List Int))×(List (List Int)))).bind fun(c5,c6)=>
  some (.n (IntKind.wrap .i64 (x_1+1),c5,c6))
 else
  some (.b (x_1,c1,c2))
def pz25(fuel:Nat)(f_1:Fnc):Option zo:=
 (mk (f_1.blocks.length:Int) ([]:List Int)).bind fun l1=>
 (mk (f_1.blocks.length:Int) ([]:List Int)).bind fun l2=>
 bindE (loopE fuel (fun s=>pz24 fuel f_1 s.1 s.2.1 s.2.2) (0,l1,l2)) (fun(x_2,c3,c4)=>
 some (⟨c3,c4⟩:zo)) some
def pz26(fuel:Nat)(g_1:zo):Option Int:=
 some (g_1.succ.length:Int)
def pz27(fuel:Nat)(s_1:zG)(i_1:Int):Option Bool:=
 some ((decide (0≤i_1))&&(decide (i_1<s_1.n)))
def pz28(fuel:Nat)(s_1:zG)(i_1:Int):Option Bool:=
 (pz27 fuel s_1 i_1).bind fun r1=>
 (if r1=true then(idx s_1.words (IntKind.wrap .i64 (Int.tdiv i_1 64))).bind fun x1=>
 (shr .u64 x1 (Int.tmod i_1 64)).bind fun x2=>
 some (decide ((band .u64 x2 1)=1)) else some false).bind fun b1=>
 some b1
def pz29(fuel:Nat)(nv_1:Int):Option zG:=
 (mk (IntKind.wrap .i64 (Int.tdiv (IntKind.wrap .i64 ((IntKind.wrap .i64 ((if 0>nv_1 then 0 else nv_1)+64))-1)) 64)) (0:Int)).bind fun l1=>
 some (⟨(if 0>nv_1 then 0 else nv_1),l1⟩:zG)
def pz2a(fuel:Nat)(s_1:zG)(i_1:Int):Option (Bool×zG):=
 (pz27 fuel s_1 i_1).bind fun r1=>
 (if(!r1)=true then some true else(pz28 fuel s_1 i_1).bind fun r2=>
 some r2).bind fun b1=>
 if b1=true then
  some (false,s_1)
 else
  (idx s_1.words (IntKind.wrap .i64 (Int.tdiv i_1 64))).bind fun x1=>
  (shl .u64 1 (Int.tmod i_1 64)).bind fun x2=>
  (setI s_1.words (IntKind.wrap .i64 (Int.tdiv i_1 64)) (bor .u64 x1 x2)).bind fun l1=>
  some (true,(⟨s_1.n,l1⟩:zG))
def pz2b(fuel:Nat)(i_1:Int)(p_1:zG)(p_2:List (A2 Int)):Option (zG×(List (A2 Int))):=
 (pz2a fuel p_1 i_1).bind fun(r1,m1)=>
 if r1=true then
  (app p_2 ([(⟨i_1,0⟩:A2 Int)]:List (A2 Int))).bind fun l1=>
  some (m1,l1)
 else
  some (m1,p_2)
def pz2c(fuel:Nat)(g_1:zo)(out_1:List Int)(steps_1:List (A2 Int))(c1:zG):Option (Ex ((List Int)×(List (A2 Int))×zG) ((List Int))):=
 if decide (0<(steps_1.length:Int))=true then
  (idx steps_1 (IntKind.wrap .i64 ((steps_1.length:Int)-1))).bind fun x1=>
  (idx g_1.succ x1.a0).bind fun x2=>
  if decide (x1.a1=(x2.length:Int))=true then
   (sli steps_1 0 (IntKind.wrap .i64 ((steps_1.length:Int)-1))).bind fun l1=>
   (app out_1 ([x1.a0]:List Int)).bind fun l2=>
   some (.n (l2,l1,c1))
  else
   (setI steps_1 (IntKind.wrap .i64 ((steps_1.length:Int)-1)) (⟨x1.a0,IntKind.wrap .i64 (x1.a1+1)⟩:A2 Int)).bind fun l3=>
   (idx x2 x1.a1).bind fun x3=>
   (pz2b fuel x3 c1 l3).bind fun(m4,m5)=>
   some (.n (out_1,m5,m4))
 else
  some (.b (out_1,steps_1,c1))
def pz2d(fuel:Nat)(g_1:zo):Option ((List Int)):=
 (pz26 fuel g_1).bind fun r1=>
 (pz29 fuel r1).bind fun r2=>
 (pz2b fuel 0 r2 ([]:List (A2 Int))).bind fun(m1,m2)=>
 bindE (loopE fuel (fun s=>pz2c fuel g_1 s.1 s.2.1 s.2.2) (([]:List Int),m2,m1)) (fun(out_2,steps_2,c2)=>
 some out_2) some
def pz2e(fuel:Nat)(s_2:List Int)(i_1:Int)(j_1:Int):Option (Ex ((List Int)×Int×Int) ((List Int))):=
 if decide (i_1<j_1)=true then
  (idx s_2 j_1).bind fun x1=>
  (idx s_2 i_1).bind fun x2=>
  (setI s_2 i_1 x1).bind fun l1=>
  (idx l1 j_1).bind fun x3=>
  (setI l1 j_1 x2).bind fun l2=>
  some (.n (l2,IntKind.wrap .i64 (i_1+1),IntKind.wrap .i64 (j_1-1)))
 else
  some (.b (s_2,i_1,j_1))
def pz2f(fuel:Nat)(s_1:List Int):Option ((List Int)):=
 bindE (loopE fuel (fun s=>pz2e fuel s.1 s.2.1 s.2.2) (s_1,0,IntKind.wrap .i64 ((s_1.length:Int)-1))) (fun(s_3,i_2,j_2)=>
 some s_3) some
def pz2g(fuel:Nat)(g_1:zo):Option ((List Int)):=
 (pz26 fuel g_1).bind fun r1=>
 if decide (r1=0)=true then
  some ([]:List Int)
 else
  (pz2d fuel g_1).bind fun r2=>
  (pz2f fuel r2).bind fun m1=>
  some m1
def pz2h(fuel:Nat)(l_1:List Int)(x_1:Int)(s_1:zG):Option (Ex (Int×zG) zG):=
 if decide (x_1<(l_1.length:Int))=true then
  (idx l_1 x_1).bind fun x1=>
  (pz2a fuel s_1 x1).bind fun(r2,m2)=>
  some (.n (IntKind.wrap .i64 (x_1+1),m2))
 else
  some (.b (x_1,s_1))
def pz2i(fuel:Nat)(nv_1:Int)(l_1:List Int):Option zG:=
 (pz29 fuel nv_1).bind fun r1=>
 bindE (loopE fuel (fun s=>pz2h fuel l_1 s.1 s.2) (0,r1)) (fun(x_2,s_2)=>
 some s_2) some
def pz2j(fuel:Nat)(g_1:zo):Option zG:=
 (pz26 fuel g_1).bind fun r1=>
 (pz2g fuel g_1).bind fun r2=>
 (pz2i fuel r1 r2).bind fun r3=>
 some r3
def pz2k(fuel:Nat)(c_1:zT)(r2:zG)(x_1:Int):Option (Ex Int zW):=
 if decide (x_1<(c_1.f.blocks.length:Int))=true then
  (pz28 fuel r2 x_1).bind fun r3=>
  if(!r3)=true then
   some (.r ((⟨39,x_1,(-1)⟩:zW)))
  else
   some (.n (IntKind.wrap .i64 (x_1+1)))
 else
  some (.b x_1)
def pz2l(fuel:Nat)(c_1:zT):Option zW:=
 (pz25 fuel c_1.f).bind fun r1=>
 (pz2j fuel r1).bind fun r2=>
 bindE (loopE fuel (fun s=>pz2k fuel c_1 r2 s) 0) (fun x_2=>
 (pz6 fuel).bind fun r4=>
 some r4) some
def pz2m(fuel:Nat)(l:List Int):Option (List Int):=if l.length≤4294967296 then some (isort l) else none
def pz2n(fuel:Nat)(l:List Int):Option (List Int):=if l.length≤4294967296 then some (Lib.compact l) else none
def pz2o(fuel:Nat)(x_1:Int):Option Bool:=
 some (decide (x_1≠x_1))
def pz2p(fuel:Nat)(x_1:Int)(y_1:Int):Option Bool:=
 (pz2o fuel x_1).bind fun r1=>
 (if r1=true then(pz2o fuel y_1).bind fun r2=>
 some (!r2) else some false).bind fun b1=>
 some (b1||(decide (x_1<y_1)))
def pz2q(fuel:Nat)(x_1:Int):Option Bool:=
 some (decide (x_1≠x_1))
def pz2r(fuel:Nat)(x_1:List Int)(target_1:Int)(i_1:Int)(j_1:Int):Option (Ex (Int×Int) (Int×Bool)):=
 if decide (i_1<j_1)=true then
  (shr .u64 (IntKind.wrap .u64 (IntKind.wrap .i64 (i_1+j_1))) 1).bind fun x1=>
  (idx x_1 (IntKind.wrap .i64 x1)).bind fun x2=>
  (pz2p fuel x2 target_1).bind fun r1=>
  if r1=true then
   some (.n (IntKind.wrap .i64 ((IntKind.wrap .i64 x1)+1),j_1))
  else
   some (.n (i_1,IntKind.wrap .i64 x1))
 else
  some (.b (i_1,j_1))
def pz2s(fuel:Nat)(x_1:List Int)(target_1:Int):Option (Int×Bool):=
 bindE (loopE fuel (fun s=>pz2r fuel x_1 target_1 s.1 s.2) (0,(x_1.length:Int))) (fun(i_2,j_2)=>
 (if(decide (i_2<(x_1.length:Int)))=true then(idx x_1 i_2).bind fun x3=>
 (if(decide (x3=target_1))=true then some true else(pz2q fuel x3).bind fun r2=>
 (if r2=true then(pz2q fuel target_1).bind fun r3=>
 some r3 else some false).bind fun b1=>
 some b1).bind fun b2=>
 some b2 else some false).bind fun b3=>
 some (i_2,b3)) some
def pz2t(fuel:Nat)(k_1:zL)(v_1:Int):Option Int:=
 (pz2s fuel k_1.ids v_1).bind fun(r1,r2)=>
 if(!r2)=true then
  some (-1)
 else
  some r1
def pz2u(fuel:Nat)(r1:zG)(x_1:Int)(s_1:zG):Option (Ex (Int×zG) zG):=
 if decide (x_1<r1.n)=true then
  (pz2a fuel s_1 x_1).bind fun(r2,m2)=>
  some (.n (IntKind.wrap .i64 (x_1+1),m2))
 else
  some (.b (x_1,s_1))
def pz2v(fuel:Nat)(nv_1:Int):Option zG:=
 (pz29 fuel nv_1).bind fun r1=>
 bindE (loopE fuel (fun s=>pz2u fuel r1 s.1 s.2) (0,r1)) (fun(x_2,s_2)=>
 some s_2) some
def pz2w(fuel:Nat)(s:List Int):Option (List Int):=app [] s
def pz2x(fuel:Nat)(o_1:Opd):Option (Int×Bool):=
 bindE (
  if decide (o_1.kind=1)=true then
   some (.r ((o_1.n,true)))
  else
   (if decide (o_1.kind=2)=true then
    some (decide (o_1.kind=2))
   else
    some (decide (o_1.kind=3)):Option Bool).bind fun x_1=>
   if x_1=true then
    some (.r ((o_1.tag,true)))
   else
    some (.n ())) (fun _=>
 some (0,false)) some
def pz2y(fuel:Nat)(i_1:Ins):Option (Int×Bool):=
 (pz2x fuel i_1.dst).bind fun(r1,r2)=>
 some (r1,r2)
def pz2z(fuel:Nat)(s_1:zG):Option zG:=
 (pz2w fuel s_1.words).bind fun r1=>
 some (⟨s_1.n,r1⟩:zG)
def pz30(fuel:Nat)(k_1:zL)(s_1:zG)(i_1:Ins):Option zG:=
 (pz2y fuel i_1).bind fun(r1,r2)=>
 if(r2&&(decide (i_1.dst.kind=1)))=true then
  (pz2t fuel k_1 r1).bind fun r3=>
  (pz2a fuel s_1 r3).bind fun(r4,m1)=>
  some m1
 else
  some s_1
def pz31(fuel:Nat)(s:List Int):Option (List Int):=app [] s
def pz32(fuel:Nat)(g_1:zo)(i_1:Int)(which_1:Int):Option ((List Int)):=
 (if(decide (i_1<0))=true then some true else(pz26 fuel g_1).bind fun r1=>
 some (decide (r1≤i_1))).bind fun b1=>
 if b1=true then
  some ([]:List Int)
 else
  (ix2 which_1).bind fun c1=>
  (idx ((⟨g_1.succ,g_1.pred⟩:A2 (List (List Int))).at c1) i_1).bind fun x1=>
  (pz31 fuel x1).bind fun r2=>
  some r2
def pz33(fuel:Nat)(g_1:zo)(i_1:Int):Option ((List Int)):=
 (pz32 fuel g_1 i_1 0).bind fun r1=>
 some r1
def pz34(fuel:Nat)(av_1:Int)(b_1:Int):Option Int:=
 some (band .u64 av_1 b_1)
def pz35(fuel:Nat)(s_1:zG)(k_1:Int):Option Int:=
 if decide ((IntKind.wrap .i64 (s_1.n-(IntKind.wrap .i64 (k_1*64))))<64)=true then
  (shl .u64 1 (IntKind.wrap .i64 (s_1.n-(IntKind.wrap .i64 (k_1*64))))).bind fun x1=>
  some (IntKind.wrap .u64 (x1-1))
 else
  some 18446744073709551615
def pz36(fuel:Nat)(k_1:zL)(l1:List Ins)(x_1:Int)(s_1:zG):Option (Ex (Int×zG) zG):=
 if decide (x_1<(l1.length:Int))=true then
  (idx l1 x_1).bind fun x3=>
  (pz30 fuel k_1 s_1 x3).bind fun m2=>
  some (.n (IntKind.wrap .i64 (x_1+1),m2))
 else
  some (.b (x_1,s_1))
def pz37(fuel:Nat)(k_1:zL)(b_1:Int)(nv_1:Int):Option zG:=
 (idx k_1.in_ b_1).bind fun x1=>
 (pz2z fuel x1).bind fun r2=>
 (idx k_1.f.blocks b_1).bind fun x2=>
 (sli x2.code 0 nv_1).bind fun l1=>
 bindE (loopE fuel (fun s=>pz36 fuel k_1 l1 s.1 s.2) (0,r2)) (fun(x_2,s_2)=>
 some s_2) some
def pz38(fuel:Nat)(s_1:zG)(o_1:zG)(c2:List Int)(x_1:Int)(changed_1:Bool):Option (Ex ((List Int)×Int×Bool) (Bool×zG)):=
 if decide (x_1<(s_1.words.length:Int))=true then
  ((idx c2 x_1).bind fun x1=>
  (if decide (x_1<(o_1.words.length:Int))=true then
   (idx o_1.words x_1).bind fun x2=>
   some x2
  else
   some 0:Option Int).bind fun b_1=>
  (pz34 fuel x1 b_1).bind fun r1=>
  (pz35 fuel (⟨s_1.n,c2⟩:zG) x_1).bind fun r2=>
  (setI c2 x_1 (band .u64 r1 r2)).bind fun l1=>
  some (l1,(changed_1||(decide ((band .u64 r1 r2)≠x1)))):Option ((List Int)×Bool)).bind fun(c4,changed_3)=>
  some (.n (c4,IntKind.wrap .i64 (x_1+1),changed_3))
 else
  some (.b (c2,x_1,changed_1))
def pz39(fuel:Nat)(s_1:zG)(o_1:zG):Option (Bool×zG):=
 bindE (loopE fuel (fun s=>pz38 fuel s_1 o_1 s.1 s.2.1 s.2.2) (s_1.words,0,false)) (fun(c3,x_2,changed_2)=>
 some (changed_2,(⟨s_1.n,c3⟩:zG))) some
def pz3a(fuel:Nat)(s_1:zG)(o_1:zG):Option (Bool×zG):=
 (pz39 fuel s_1 o_1).bind fun(r1,m1)=>
 some (r1,m1)
def pz3b(fuel:Nat)(f_1:Fnc)(x_1:Int)(c1:List Int):Option (Ex (Int×(List Int)) zL):=
 if decide (x_1<(f_1.regs.length:Int))=true then
  (idx f_1.regs x_1).bind fun x1=>
  (app c1 ([x1.id]:List Int)).bind fun l1=>
  some (.n (IntKind.wrap .i64 (x_1+1),l1))
 else
  some (.b (x_1,c1))
def pz3c(fuel:Nat)(f_1:Fnc)(r1:List Int)(c3:List zG)(x_3:Int):Option (Ex ((List zG)×Int) zL):=
 if decide (x_3<(f_1.blocks.length:Int))=true then
  (pz2v fuel (r1.length:Int)).bind fun r2=>
  (app c3 [r2]).bind fun l2=>
  some (.n (l2,IntKind.wrap .i64 (x_3+1)))
 else
  some (.b (c3,x_3))
def pz3d(fuel:Nat)(f_1:Fnc)(r1:List Int)(c4:List zG)(first_1:zG)(x_5:Int):Option (Ex (zG×Int) zL):=
 if decide (x_5<(f_1.params.length:Int))=true then
  ((idx f_1.params x_5).bind fun x2=>
  if decide (x2.kind=1)=true then
   (pz2t fuel (⟨f_1,r1,c4⟩:zL) x2.n).bind fun r4=>
   (pz2a fuel first_1 r4).bind fun(r5,m5)=>
   some m5
  else
   some first_1:Option zG).bind fun first_3=>
  some (.n (first_3,IntKind.wrap .i64 (x_5+1)))
 else
  some (.b (first_1,x_5))
def pz3e(fuel:Nat)(r9:zG)(r10:List Int)(wait_3:List Int)(x_7:Int)(k_3:zL):Option (Ex ((List Int)×Int×zL) (Ex ((List Int)×zL) zL)):=
 if decide (x_7<(r10.length:Int))=true then
  ((idx r10 x_7).bind fun x6=>
  (idx k_3.in_ x6).bind fun x7=>
  (pz3a fuel x7 r9).bind fun(r12,m8)=>
  (if r12=true then(pz10 fuel wait_3 x6).bind fun r13=>
  some (!r13) else some false).bind fun b1=>
  (setI k_3.in_ x6 m8).bind fun l5=>
  if b1=true then
   (app wait_3 ([x6]:List Int)).bind fun l6=>
   some (l6,k_3.f.machine,k_3.f.name,k_3.f.regs,k_3.f.params,k_3.f.blocks,k_3.ids,l5)
  else
   some (wait_3,k_3.f.machine,k_3.f.name,k_3.f.regs,k_3.f.params,k_3.f.blocks,k_3.ids,l5):Option ((List Int)×Bool×ByteArray×(List Rg)×(List Opd)×(List Bl)×(List Int)×(List zG))).bind fun(wait_5,c6,c7,c8,c9,c10,c11,c12)=>
  some (.n (wait_5,IntKind.wrap .i64 (x_7+1),(⟨(⟨c6,c7,c8,c9,c10⟩:Fnc),c11,c12⟩:zL)))
 else
  some (.b (wait_3,x_7,k_3))
def pz3f(fuel:Nat)(f_1:Fnc)(r7:zo)(wait_1:List Int)(k_1:zL):Option (Ex ((List Int)×zL) zL):=
 if decide (0<(wait_1.length:Int))=true then
  (idx wait_1 0).bind fun x4=>
  (sli wait_1 1 (wait_1.length:Int)).bind fun l4=>
  (idx f_1.blocks x4).bind fun x5=>
  (pz37 fuel k_1 x4 (x5.code.length:Int)).bind fun r9=>
  (pz33 fuel r7 x4).bind fun r10=>
  bindE (loopE fuel (fun s=>pz3e fuel r9 r10 s.1 s.2.1 s.2.2) (l4,0,k_1)) (fun(wait_4,x_8,k_4)=>
  some (.n (wait_4,k_4))) some
 else
  some (.b (wait_1,k_1))
def pz3g(fuel:Nat)(f_1:Fnc):Option zL:=
 bindE (loopE fuel (fun s=>pz3b fuel f_1 s.1 s.2) (0,([]:List Int))) (fun(x_2,c2)=>
 (pz2m fuel c2).bind fun m2=>
 (pz2n fuel m2).bind fun r1=>
 bindE (loopE fuel (fun s=>pz3c fuel f_1 r1 s.1 s.2) (([]:List zG),0)) (fun(c4,x_4)=>
 if decide ((f_1.blocks.length:Int)=0)=true then
  some (⟨f_1,r1,c4⟩:zL)
 else
  (pz29 fuel (r1.length:Int)).bind fun r3=>
  bindE (loopE fuel (fun s=>pz3d fuel f_1 r1 c4 s.1 s.2) (r3,0)) (fun(first_2,x_6)=>
  (idx c4 0).bind fun x3=>
  (setI c4 0 first_2).bind fun l3=>
  (pz25 fuel f_1).bind fun r7=>
  (pz2g fuel r7).bind fun r8=>
  bindE (loopE fuel (fun s=>pz3f fuel f_1 r7 s.1 s.2) (r8,(⟨f_1,r1,l3⟩:zL))) (fun(wait_2,k_2)=>
  some k_2) some) some) some) some
def pz3h(fuel:Nat)(k_1:zL)(x_1:Int)(x_3:Int)(s_1:zG)(x3:Ins)(x_5:Int):Option (Ex Int (Ex (Int×zG) (Ex Int (Int×Int×Int×Bool)))):=
 if decide (x_5<(x3.args.length:Int))=true then
  (idx x3.args x_5).bind fun x4=>
  (if(decide (x4.kind=1))=true then(pz2t fuel k_1 x4.n).bind fun r2=>
  (pz28 fuel s_1 r2).bind fun r3=>
  some (!r3) else some false).bind fun b1=>
  if b1=true then
   some (.r (.r (.r ((x_1,x_3,x4.n,true)))))
  else
   some (.n (IntKind.wrap .i64 (x_5+1)))
 else
  some (.b x_5)
def pz3i(fuel:Nat)(k_1:zL)(x_1:Int)(x2:Bl)(x_3:Int)(s_1:zG):Option (Ex (Int×zG) (Ex Int (Int×Int×Int×Bool))):=
 if decide (x_3<(x2.code.length:Int))=true then
  (idx x2.code x_3).bind fun x3=>
  bindE (loopE fuel (fun s=>pz3h fuel k_1 x_1 x_3 s_1 x3 s) 0) (fun x_6=>
  (pz30 fuel k_1 s_1 x3).bind fun m4=>
  some (.n (IntKind.wrap .i64 (x_3+1),m4))) some
 else
  some (.b (x_3,s_1))
def pz3j(fuel:Nat)(k_1:zL)(x_1:Int):Option (Ex Int (Int×Int×Int×Bool)):=
 if decide (x_1<(k_1.in_.length:Int))=true then
  (idx k_1.in_ x_1).bind fun x1=>
  (pz2z fuel x1).bind fun r1=>
  (idx k_1.f.blocks x_1).bind fun x2=>
  bindE (loopE fuel (fun s=>pz3i fuel k_1 x_1 x2 s.1 s.2) (0,r1)) (fun(x_4,s_2)=>
  some (.n (IntKind.wrap .i64 (x_1+1)))) some
 else
  some (.b x_1)
def pz3k(fuel:Nat)(k_1:zL):Option (Int×Int×Int×Bool):=
 bindE (loopE fuel (fun s=>pz3j fuel k_1 s) 0) (fun x_2=>
 some (0,0,0,false)) some
def pz3l(fuel:Nat)(c_1:zT):Option zW:=
 (pz3g fuel c_1.f).bind fun r1=>
 (pz3k fuel r1).bind fun(r2,r3,r4,r5)=>
 if r5=true then
  some (⟨40,r2,r3⟩:zW)
 else
  (pz6 fuel).bind fun r6=>
  some r6
def pz3m(fuel:Nat)(x:Nat)(a0_:zT):Option zW:=
 if x=21 then pz7 fuel a0_ else if x=22 then pz9 fuel a0_ else if x=23 then pzg fuel a0_ else if x=24 then pzo fuel a0_ else if x=25 then pz21 fuel a0_ else if x=26 then pz2l fuel a0_ else if x=27 then pz3l fuel a0_ else none
def pz3n(fuel:Nat)(f_1:Fnc)(x_1:Int):Option (Ex Int (Int×Int×Int)):=
 if decide (x_1<7)=true then
  (idx ([(⟨21⟩:zk),(⟨22⟩:zk),(⟨23⟩:zk),(⟨24⟩:zk),(⟨25⟩:zk),(⟨26⟩:zk),(⟨27⟩:zk)]:List zk) x_1).bind fun x1=>
  (pz3m fuel x1.look (⟨f_1⟩:zT)).bind fun r1=>
  if decide (r1.code≠0)=true then
   some (.r ((r1.code,r1.block,r1.i)))
  else
   some (.n (IntKind.wrap .i64 (x_1+1)))
 else
  some (.b x_1)
def pz3o(fuel:Nat)(f_1:Fnc):Option (Int×Int×Int):=
 bindE (loopE fuel (fun s=>pz3n fuel f_1 s) 0) (fun x_2=>
 some (0,(-1),(-1))) some
def pz3p(fuel:Nat)(f_1:Fnc):Option Bool:=
 (pz3o fuel f_1).bind fun(r1,r2,r3)=>
 some (decide (r1=0))
def pz3q(fuel:Nat):Option Bool:=
 (pz0 fuel 1).bind fun r1=>
 (pz0 fuel 2).bind fun r2=>
 (pz3o fuel (⟨false,(⟨#[102]⟩:ByteArray),([(⟨1,0⟩:Rg),(⟨2,1⟩:Rg)]:List Rg),([r1]:List Opd),([(⟨(⟨#[97]⟩:ByteArray),false,([]:List Opd),([(⟨23,(⟨0,0,0,0⟩:Opd),([r2]:List Opd),(⟨#[]⟩:ByteArray),0,([]:List ByteArray),([]:List Int)⟩:Ins)]:List Ins)⟩:Bl)]:List Bl)⟩:Fnc)).bind fun(r3,r4,r5)=>
 (pz3o fuel (⟨false,(⟨#[102]⟩:ByteArray),([(⟨1,0⟩:Rg),(⟨2,1⟩:Rg)]:List Rg),[],([(⟨(⟨#[97]⟩:ByteArray),false,([]:List Opd),([(⟨23,(⟨0,0,0,0⟩:Opd),([r1]:List Opd),(⟨#[]⟩:ByteArray),0,([]:List ByteArray),([]:List Int)⟩:Ins)]:List Ins)⟩:Bl)]:List Bl)⟩:Fnc)).bind fun(r6,r7,r8)=>
 (pz3p fuel (⟨false,(⟨#[102]⟩:ByteArray),([(⟨1,0⟩:Rg),(⟨2,1⟩:Rg)]:List Rg),([r1]:List Opd),([(⟨(⟨#[97]⟩:ByteArray),false,([]:List Opd),([(⟨23,(⟨0,0,0,0⟩:Opd),([r1]:List Opd),(⟨#[]⟩:ByteArray),0,([]:List ByteArray),([]:List Int)⟩:Ins)]:List Ins)⟩:Bl)]:List Bl)⟩:Fnc)).bind fun r9=>
 (if r9=true then(pz3p fuel (⟨false,(⟨#[102]⟩:ByteArray),([(⟨1,0⟩:Rg),(⟨2,1⟩:Rg)]:List Rg),([r1]:List Opd),([(⟨(⟨#[97]⟩:ByteArray),false,([]:List Opd),([(⟨23,(⟨0,0,0,0⟩:Opd),([r2]:List Opd),(⟨#[]⟩:ByteArray),0,([]:List ByteArray),([]:List Int)⟩:Ins)]:List Ins)⟩:Bl)]:List Bl)⟩:Fnc)).bind fun r10=>
 some (!r10) else some false).bind fun b1=>
 some ((((b1&&(decide (r3=37)))&&(decide (r4=0)))&&(decide (r5=0)))&&(decide (r6=40)))
def pz3r(fuel:Nat)(f_1:Fnc)(label_1:ByteArray)(i1:Int):Option (Ex Unit Int):=
 (idx f_1.blocks i1).bind fun x1=>
 if decide (x1.label=label_1)=true then
  some (.r (i1))
 else
  some (.n ())
def pz3s(fuel:Nat)(f_1:Fnc)(label_1:ByteArray):Option Int:=
 bindE (toE 0 (f_1.blocks.length:Int) (fun i _=>pz3r fuel f_1 label_1 i) ()) (fun _=>
 some (-1)) some
def pz3t(fuel:Nat)(i1:Int)(out_1:List zl):Option ((List zl)):=
 (idx ([(⟨#[97,100,100]⟩:ByteArray),(⟨#[115,117,98]⟩:ByteArray),(⟨#[109,117,108]⟩:ByteArray),(⟨#[97,110,100]⟩:ByteArray),(⟨#[111,114]⟩:ByteArray),(⟨#[120,111,114]⟩:ByteArray),(⟨#[115,104,108]⟩:ByteArray),(⟨#[115,104,114]⟩:ByteArray),(⟨#[115,97,114]⟩:ByteArray),(⟨#[100,105,118]⟩:ByteArray),(⟨#[114,101,109]⟩:ByteArray),(⟨#[101,113]⟩:ByteArray),(⟨#[110,101]⟩:ByteArray),(⟨#[108,116]⟩:ByteArray),(⟨#[108,101]⟩:ByteArray)]:List ByteArray) i1).bind fun x1=>
 (app out_1 [(⟨x1,(⟨#[103]⟩:ByteArray),([(⟨#[103]⟩:ByteArray),(⟨#[103,105]⟩:ByteArray)]:List ByteArray),0,false⟩:zl)]).bind fun l1=>
 some l1
def pz3u(fuel:Nat):Option ((List zl)):=
 (toN 0 15 (fun i s=>pz3t fuel i s) ([]:List zl)).bind fun out_2=>
 (app out_2 [(⟨(⟨#[99,111,112,121]⟩:ByteArray),(⟨#[103,120]⟩:ByteArray),([(⟨#[103,120,105]⟩:ByteArray)]:List ByteArray),0,false⟩:zl)]).bind fun l2=>
 (app l2 [(⟨(⟨#[108,111,97,100]⟩:ByteArray),(⟨#[103]⟩:ByteArray),([(⟨#[120]⟩:ByteArray)]:List ByteArray),0,false⟩:zl)]).bind fun l3=>
 (app l3 [(⟨(⟨#[115,116,111,114,101]⟩:ByteArray),(⟨#[]⟩:ByteArray),([(⟨#[103]⟩:ByteArray),(⟨#[120]⟩:ByteArray)]:List ByteArray),0,false⟩:zl)]).bind fun l4=>
 (app l4 [(⟨(⟨#[99,97,108,108]⟩:ByteArray),(⟨#[103,110]⟩:ByteArray),([(⟨#[103,105,115]⟩:ByteArray),(⟨#[103,105,115]⟩:ByteArray),(⟨#[103,105,115]⟩:ByteArray),(⟨#[103,105,115]⟩:ByteArray),(⟨#[103,105,115]⟩:ByteArray),(⟨#[103,105,115]⟩:ByteArray),(⟨#[103,105,115]⟩:ByteArray),(⟨#[103,105,115]⟩:ByteArray)]:List ByteArray),0,false⟩:zl)]).bind fun l5=>
 (app l5 [(⟨(⟨#[98,114]⟩:ByteArray),(⟨#[]⟩:ByteArray),([]:List ByteArray),1,false⟩:zl)]).bind fun l6=>
 (app l6 [(⟨(⟨#[98,114,105,102]⟩:ByteArray),(⟨#[]⟩:ByteArray),([(⟨#[103]⟩:ByteArray)]:List ByteArray),2,false⟩:zl)]).bind fun l7=>
 (app l7 [(⟨(⟨#[115,119,105,116,99,104]⟩:ByteArray),(⟨#[]⟩:ByteArray),([(⟨#[103]⟩:ByteArray)]:List ByteArray),(-1),false⟩:zl)]).bind fun l8=>
 (app l8 [(⟨(⟨#[114,101,116]⟩:ByteArray),(⟨#[]⟩:ByteArray),([(⟨#[103,105]⟩:ByteArray)]:List ByteArray),0,false⟩:zl)]).bind fun l9=>
 (app l9 [(⟨(⟨#[109,111,118,101]⟩:ByteArray),(⟨#[103,120]⟩:ByteArray),([(⟨#[103,120]⟩:ByteArray)]:List ByteArray),0,true⟩:zl)]).bind fun l10=>
 (app l10 [(⟨(⟨#[115,112,105,108,108]⟩:ByteArray),(⟨#[115]⟩:ByteArray),([(⟨#[103,120]⟩:ByteArray)]:List ByteArray),0,true⟩:zl)]).bind fun l11=>
 (app l11 [(⟨(⟨#[114,101,108,111,97,100]⟩:ByteArray),(⟨#[103,120]⟩:ByteArray),([(⟨#[115]⟩:ByteArray)]:List ByteArray),0,true⟩:zl)]).bind fun l12=>
 (app l12 [(⟨(⟨#[115,119,97,112]⟩:ByteArray),(⟨#[]⟩:ByteArray),([(⟨#[103,120,115]⟩:ByteArray),(⟨#[103,120,115]⟩:ByteArray)]:List ByteArray),0,true⟩:zl)]).bind fun l13=>
 some l13
def pz3v(fuel:Nat)(op_1:Int):Option (zl×Bool):=
 (pz3u fuel).bind fun r1=>
 if((decide (op_1<1))||(decide ((r1.length:Int)<op_1)))=true then
  some ((⟨(⟨#[]⟩:ByteArray),(⟨#[]⟩:ByteArray),[],0,false⟩:zl),false)
 else
  (idx r1 (IntKind.wrap .i64 (op_1-1))).bind fun x1=>
  some (x1,true)
def pz3w(fuel:Nat)(x_1:Ins)(r_1:zl):Option Bool:=
 (if decide (x_1.op=19)=true then
  some 0
 else
  some (r_1.args.length:Int):Option Int).bind fun least_1=>
 (if decide (r_1.labels<0)=true then
  some (IntKind.wrap .i64 ((x_1.cases.length:Int)+1))
 else
  some r_1.labels:Option Int).bind fun labels_1=>
 if(((decide ((x_1.args.length:Int)<least_1))||(decide ((r_1.args.length:Int)<(x_1.args.length:Int))))||(decide ((x_1.labels.length:Int)≠labels_1)))=true then
  some false
 else
  if((((decide (x_1.dst.kind=0))&&(decide (r_1.dst≠(⟨#[]⟩:ByteArray))))&&(decide (x_1.op≠19)))||((decide (x_1.dst.kind≠0))&&(decide (r_1.dst=(⟨#[]⟩:ByteArray)))))=true then
   some false
  else
   if(((decide (x_1.op≠22))&&(decide (0<(x_1.cases.length:Int))))||((decide (x_1.op≠19))&&(decide (x_1.name≠(⟨#[]⟩:ByteArray)))))=true then
    some false
   else
    some (((decide (x_1.off=0))||(decide (x_1.op=17)))||(decide (x_1.op=18)))
def pz3x(fuel:Nat)(l_1:List Int)(nv_1:Int)(i1:Int):Option (Ex Unit Bool):=
 (idx l_1 i1).bind fun x1=>
 if decide (x1=nv_1)=true then
  some (.r (true))
 else
  some (.n ())
def pz3y(fuel:Nat)(l_1:List Int)(nv_1:Int):Option Bool:=
 bindE (toE 0 (l_1.length:Int) (fun i _=>pz3x fuel l_1 nv_1 i) ()) (fun _=>
 some false) some
def pz3z(fuel:Nat)(op_1:Int)(i_1:Int):Option ByteArray:=
 (pz3v fuel op_1).bind fun(r1,r2)=>
 if decide (i_1=(-1))=true then
  some r1.dst
 else
  if((decide (0≤i_1))&&(decide (i_1<(r1.args.length:Int))))=true then
   (idx r1.args i_1).bind fun x1=>
   some x1
  else
   some (⟨#[]⟩:ByteArray)
def pz40(fuel:Nat)(s_1:ByteArray)(c_1:Int)(i1:Int):Option (Ex Unit Bool):=
 (bidx s_1 i1).bind fun c1=>
 if decide (c1=c_1)=true then
  some (.r (true))
 else
  some (.n ())
def pz41(fuel:Nat)(s_1:ByteArray)(c_1:Int):Option Bool:=
 bindE (toE 0 (s_1.size:Int) (fun i _=>pz40 fuel s_1 c_1 i) ()) (fun _=>
 some false) some
def pz42(fuel:Nat)(op_1:Int)(i_1:Int)(kind_1:Int)(machine_1:Bool):Option Bool:=
 (pz3z fuel op_1 i_1).bind fun r1=>
 (pz3v fuel op_1).bind fun(r2,r3)=>
 (pz41 fuel r1 103).bind fun r4=>
 (if r4=true then some true else(pz41 fuel r1 120).bind fun r5=>
 some r5).bind fun b1=>
 if decide (kind_1=0)=true then
  (if(decide (i_1=(-1)))=true then(if(decide (r1=(⟨#[]⟩:ByteArray)))=true then some true else(pz41 fuel r1 110).bind fun r6=>
  some r6).bind fun b2=>
  some b2 else some false).bind fun b3=>
  some b3
 else
  if decide (kind_1=1)=true then
   some (((!machine_1)&&(!r2.alone))&&b1)
  else
   if decide (kind_1=2)=true then
    some (machine_1&&b1)
   else
    if decide (kind_1=3)=true then
     (if machine_1=true then(pz41 fuel r1 115).bind fun r7=>
     some r7 else some false).bind fun b4=>
     some b4
    else
     if decide (kind_1=4)=true then
      (pz41 fuel r1 105).bind fun r8=>
      some r8
     else
      some false
def pz43(fuel:Nat)(op_1:Int)(i_1:Int)(classv_1:Int):Option Bool:=
 (if(decide (classv_1=0))=true then(pz3z fuel op_1 i_1).bind fun r1=>
 (pz41 fuel r1 103).bind fun r2=>
 some r2 else some false).bind fun b1=>
 (if b1=true then some true else(if(decide (classv_1=1))=true then(pz3z fuel op_1 i_1).bind fun r3=>
 (pz41 fuel r3 120).bind fun r4=>
 some r4 else some false).bind fun b2=>
 some b2).bind fun b3=>
 some b3
def pz44(fuel:Nat)(d_1:Drf)(i1:Int)(nv_1:Int):Option Int:=
 (idx d_1.blocks i1).bind fun x1=>
 some (IntKind.wrap .i64 ((IntKind.wrap .i64 (nv_1+1))+(x1.code.length:Int)))
def pz45(fuel:Nat)(d_1:Drf):Option Bool:=
 (toN 0 (d_1.blocks.length:Int) (fun i s=>pz44 fuel d_1 i s) 0).bind fun nv_2=>
 some ((decide (9<(d_1.blocks.length:Int)))||(decide (60<nv_2)))
def pz46(fuel:Nat)(v_1:Int):Option Opd:=
 some (⟨1,0,v_1,0⟩:Opd)
def pz47(fuel:Nat)(nv_1:Int):Option Opd:=
 some (⟨4,0,nv_1,0⟩:Opd)
def pz48(fuel:Nat)(m_1:zH)(classv_1:Int)(k_1:Int):Option Opd:=
 (ix2 classv_1).bind fun c1=>
 (rem (IntKind.wrap .i64 k_1) ((m_1.ids.at c1).length:Int)).bind fun x1=>
 (idx (m_1.ids.at c1) x1).bind fun x2=>
 ((pz3y fuel m_1.has x2).bind fun r1=>
 if(!r1)=true then
  (idx (m_1.ids.at c1) 0).bind fun x3=>
  some x3
 else
  some x2:Option Int).bind fun v_1=>
 (pz46 fuel v_1).bind fun r2=>
 some r2
def pz49(fuel:Nat)(i_1:Int):Option ByteArray:=
 if decide (i_1=0)=true then
  some (⟨#[101,110,116,114,121]⟩:ByteArray)
 else
  (bsli (⟨#[48,49,50,51,52,53,54,55,56,57]⟩:ByteArray) i_1 (IntKind.wrap .i64 (i_1+1))).bind fun s1=>
  (sadd (⟨#[98]⟩:ByteArray) s1).bind fun s2=>
  some s2
def pz4a(fuel:Nat)(k_1:Int)(nv_1:Int):Option ByteArray:=
 (rem (IntKind.wrap .i64 k_1) (IntKind.wrap .i64 (nv_1-1))).bind fun x1=>
 (pz49 fuel (IntKind.wrap .i64 (1+x1))).bind fun r1=>
 some r1
def pz4b(fuel:Nat)(m_1:zH)(classv_1:Int)(k_1:Int):Option (Opd×zH):=
 (ix2 classv_1).bind fun c2=>
 (rem (IntKind.wrap .i64 k_1) ((m_1.ids.at c2).length:Int)).bind fun x1=>
 (idx (m_1.ids.at c2) x1).bind fun x2=>
 ((pz3y fuel m_1.has x2).bind fun r1=>
 if(!r1)=true then
  (app m_1.has ([x2]:List Int)).bind fun l1=>
  some l1
 else
  some m_1.has:Option ((List Int))).bind fun c3=>
 (pz46 fuel x2).bind fun r2=>
 some (r2,(⟨m_1.f,m_1.ids,c3⟩:zH))
def pz4c(fuel:Nat)(m_1:zH)(d_1:DIns)(i1:Int)(c11:List Opd):Option ((List Opd)):=
 if decide ((Int.tmod (IntKind.wrap .i64 ((IntKind.wrap .i64 d_1.n)+i1)) 3)=0)=true then
  (pz47 fuel (IntKind.wrap .i64 d_1.n)).bind fun r8=>
  (app c11 ([r8]:List Opd)).bind fun l2=>
  some l2
 else
  (pz48 fuel m_1 0 (IntKind.wrap .u8 (d_1.a+(IntKind.wrap .u8 ((IntKind.wrap .u8 i1)*d_1.b))))).bind fun r9=>
  (app c11 ([r9]:List Opd)).bind fun l3=>
  some l3
def pz4d(fuel:Nat)(m_1:zH)(d_1:DIns):Option (Ins×zH):=
 (if decide ((IntKind.wrap .i64 (1+(Int.tmod (IntKind.wrap .i64 d_1.op) 19)))=16)=true then
  (pz47 fuel (IntKind.wrap .i64 d_1.n)).bind fun r1=>
  (if decide (0<(Int.tmod d_1.b 3))=true then
   (pz48 fuel m_1 (IntKind.wrap .i64 ((IntKind.wrap .i64 (Int.tmod d_1.b 3))-1)) d_1.a).bind fun r2=>
   (idx ([r1]:List Opd) 0).bind fun x1=>
   (setI ([r1]:List Opd) 0 r2).bind fun l1=>
   some l1
  else
   some ([r1]:List Opd):Option ((List Opd))).bind fun c10=>
  (pz4b fuel m_1 (Int.tmod (IntKind.wrap .i64 d_1.d) 2) (IntKind.wrap .u8 (Int.tdiv d_1.d 2))).bind fun(r3,m1)=>
  some (r3.kind,r3.cls,r3.n,r3.tag,c10,(⟨#[]⟩:ByteArray),0,m1)
 else
  if decide ((IntKind.wrap .i64 (1+(Int.tmod (IntKind.wrap .i64 d_1.op) 19)))=17)=true then
   (pz48 fuel m_1 1 d_1.a).bind fun r4=>
   (pz4b fuel m_1 0 d_1.d).bind fun(r5,m2)=>
   some (r5.kind,r5.cls,r5.n,r5.tag,([r4]:List Opd),(⟨#[]⟩:ByteArray),Int.tmod (IntKind.wrap .i64 d_1.n) 8,m2)
  else
   if decide ((IntKind.wrap .i64 (1+(Int.tmod (IntKind.wrap .i64 d_1.op) 19)))=18)=true then
    (pz48 fuel m_1 0 d_1.b).bind fun r6=>
    (pz48 fuel m_1 1 d_1.a).bind fun r7=>
    some (0,0,0,0,([r6,r7]:List Opd),(⟨#[]⟩:ByteArray),Int.tmod (IntKind.wrap .i64 d_1.n) 8,m_1)
   else
    if decide ((IntKind.wrap .i64 (1+(Int.tmod (IntKind.wrap .i64 d_1.op) 19)))=19)=true then
     (idx ([(⟨#[102]⟩:ByteArray),(⟨#[103]⟩:ByteArray),(⟨#[112,117,116,10]⟩:ByteArray)]:List ByteArray) (Int.tmod (IntKind.wrap .i64 d_1.a) 3)).bind fun x2=>
     (toN 0 (Int.tmod (IntKind.wrap .i64 d_1.b) 4) (fun i s=>pz4c fuel m_1 d_1 i s) ([]:List Opd)).bind fun c12=>
     if decide (0<(Int.tmod d_1.d 3))=true then
      (pz4b fuel m_1 0 d_1.d).bind fun(r10,m3)=>
      some (r10.kind,r10.cls,r10.n,r10.tag,c12,x2,0,m3)
     else
      some (0,0,0,0,c12,x2,0,m_1)
    else
     (pz48 fuel m_1 0 d_1.a).bind fun r11=>
     (pz47 fuel (IntKind.wrap .i64 d_1.n)).bind fun r12=>
     (if decide (0<(Int.tmod d_1.b 3))=true then
      (pz48 fuel m_1 0 d_1.b).bind fun r13=>
      (idx ([r11,r12]:List Opd) 1).bind fun x3=>
      (setI ([r11,r12]:List Opd) 1 r13).bind fun l4=>
      some l4
     else
      some ([r11,r12]:List Opd):Option ((List Opd))).bind fun c13=>
     (pz4b fuel m_1 0 d_1.d).bind fun(r14,m4)=>
     some (r14.kind,r14.cls,r14.n,r14.tag,c13,(⟨#[]⟩:ByteArray),0,m4):Option (Int×Int×Int×Int×(List Opd)×ByteArray×Int×zH)).bind fun(c2,c3,c4,c5,c6,c7,c8,c9)=>
 some ((⟨IntKind.wrap .i64 (1+(Int.tmod (IntKind.wrap .i64 d_1.op) 19)),(⟨c2,c3,c4,c5⟩:Opd),c6,c7,c8,[],[]⟩:Ins),c9)
def pz4e(fuel:Nat)(m_1:zH)(d_1:DBl)(i_1:Int)(nv_1:Int):Option Ins:=
 (pz48 fuel m_1 0 d_1.v).bind fun r1=>
 if((decide (nv_1=1))||((decide (i_1=(IntKind.wrap .i64 (nv_1-1))))&&(decide ((Int.tmod d_1.term 3)=0))))=true then
  (if decide ((Int.tmod d_1.v 7)=6)=true then
   (pz47 fuel (IntKind.wrap .i64 d_1.v)).bind fun r2=>
   some (r2.kind,r2.cls,r2.n,r2.tag)
  else
   some (r1.kind,r1.cls,r1.n,r1.tag):Option (Int×Int×Int×Int)).bind fun(c2,c3,c4,c5)=>
  some (⟨23,(⟨0,0,0,0⟩:Opd),([(⟨c2,c3,c4,c5⟩:Opd)]:List Opd),(⟨#[]⟩:ByteArray),0,[],[]⟩:Ins)
 else
  (pz4a fuel d_1.a nv_1).bind fun r3=>
  (if decide (i_1<(IntKind.wrap .i64 (nv_1-1)))=true then
   (pz49 fuel (IntKind.wrap .i64 (i_1+1))).bind fun r4=>
   some r4
  else
   some r3:Option ByteArray).bind fun next_1=>
  bindE (
   (if decide ((Int.tmod d_1.term 4)=0)=true then
    some (decide ((Int.tmod d_1.term 4)=0))
   else
    some (decide ((Int.tmod d_1.term 4)=1)):Option Bool).bind fun x_1=>
   if x_1=true then
    if decide ((Int.tmod d_1.term 8)<4)=true then
     (pz4a fuel d_1.b nv_1).bind fun r5=>
     some (.r ((⟨21,(⟨0,0,0,0⟩:Opd),([r1]:List Opd),(⟨#[]⟩:ByteArray),0,([next_1,r5]:List ByteArray),[]⟩:Ins)))
    else
     (pz4a fuel d_1.b nv_1).bind fun r6=>
     some (.r ((⟨21,(⟨0,0,0,0⟩:Opd),([r1]:List Opd),(⟨#[]⟩:ByteArray),0,([r6,next_1]:List ByteArray),[]⟩:Ins)))
   else
    if decide ((Int.tmod d_1.term 4)=2)=true then
     (pz4a fuel d_1.b nv_1).bind fun r7=>
     (if decide ((Int.tmod d_1.v 2)=0)=true then
      (sli ([Int.tmod (IntKind.wrap .i64 d_1.a) 3,5]:List Int) 0 1).bind fun l1=>
      some (([r7,next_1]:List ByteArray),l1)
     else
      some (([r3,r7,next_1]:List ByteArray),([Int.tmod (IntKind.wrap .i64 d_1.a) 3,5]:List Int)):Option ((List ByteArray)×(List Int))).bind fun(c6,c7)=>
     some (.r ((⟨22,(⟨0,0,0,0⟩:Opd),([r1]:List Opd),(⟨#[]⟩:ByteArray),0,c6,c7⟩:Ins)))
    else
     some (.n ())) (fun _=>
  some (⟨20,(⟨0,0,0,0⟩:Opd),[],(⟨#[]⟩:ByteArray),0,([next_1]:List ByteArray),[]⟩:Ins)) some
def pz4f(fuel:Nat)(d_1:Drf)(i1:Int)(c5:List Int)(c6:List Int)(i_1:Int):Option (Ex ((List Int)×(List Int)×Int) ((List Int)×(List Int))):=
 (ix2 i1).bind fun c9=>
 if decide (i_1<((⟨IntKind.wrap .i64 (1+(Int.tmod (IntKind.wrap .i64 d_1.g) 6)),IntKind.wrap .i64 (1+(Int.tmod (IntKind.wrap .i64 d_1.x) 3))⟩:A2 Int).at c9))=true then
  ((ix2 i1).bind fun c12=>
  if c12=true then
   (app c6 ([IntKind.wrap .i64 ((IntKind.wrap .i64 (2*i_1))+i1)]:List Int)).bind fun l2=>
   some (c5,l2)
  else
   (app c5 ([IntKind.wrap .i64 ((IntKind.wrap .i64 (2*i_1))+i1)]:List Int)).bind fun l1=>
   some (l1,c6):Option ((List Int)×(List Int))).bind fun(c10,c11)=>
  some (.n (c10,c11,IntKind.wrap .i64 (i_1+1)))
 else
  some (.b (c5,c6,i_1))
def pz4g(fuel:Nat)(d_1:Drf)(i1:Int)(c1:List Int)(c2:List Int):Option ((List Int)×(List Int)):=
 bindE (loopE fuel (fun s=>pz4f fuel d_1 i1 s.1 s.2.1 s.2.2) (c1,c2,0)) (fun(c7,c8,i_2)=>
 some (c7,c8)) some
def pz4h(fuel:Nat)(d_1:Drf)(i3:Int)(c13:List Rg):Option ((List Rg)):=
 (ix2 (Int.tmod i3 2)).bind fun c15=>
 if decide ((IntKind.wrap .i64 (Int.tdiv i3 2))<((⟨IntKind.wrap .i64 (1+(Int.tmod (IntKind.wrap .i64 d_1.g) 6)),IntKind.wrap .i64 (1+(Int.tmod (IntKind.wrap .i64 d_1.x) 3))⟩:A2 Int).at c15))=true then
  (app c13 ([(⟨i3,Int.tmod i3 2⟩:Rg)]:List Rg)).bind fun l3=>
  some l3
 else
  some c13
def pz4i(fuel:Nat)(d_1:Drf)(c14:List Rg)(i_3:Int)(c16:List Opd)(c17:List Int)(code_1:List Ins):Option (Ex (Int×(List Opd)×(List Int)×(List Ins)) Fnc):=
 if decide (i_3<(c14.length:Int))=true then
  ((idx c14 i_3).bind fun x1=>
  (rem (IntKind.wrap .i64 d_1.params) (IntKind.wrap .i64 ((c14.length:Int)+1))).bind fun x2=>
  if decide (i_3<x2)=true then
   (pz46 fuel x1.id).bind fun r1=>
   (app c16 ([r1]:List Opd)).bind fun l4=>
   (app c17 ([x1.id]:List Int)).bind fun l5=>
   some (l4,l5,code_1)
  else
   if((decide (i_3<2))||(decide ((IntKind.wrap .i64 (i_3+2))<(c14.length:Int))))=true then
    (pz46 fuel x1.id).bind fun r2=>
    (pz47 fuel (IntKind.wrap .i64 (3*x1.id))).bind fun r3=>
    (app code_1 [(⟨16,r2,([r3]:List Opd),(⟨#[]⟩:ByteArray),0,([]:List ByteArray),([]:List Int)⟩:Ins)]).bind fun l6=>
    (app c17 ([x1.id]:List Int)).bind fun l7=>
    some (c16,l7,l6)
   else
    some (c16,c17,code_1):Option ((List Opd)×(List Int)×(List Ins))).bind fun(c20,c21,code_3)=>
  some (.n (IntKind.wrap .i64 (i_3+1),c20,c21,code_3))
 else
  some (.b (i_3,c16,c17,code_1))
def pz4j(fuel:Nat)(c38:List DIns)(i6:Int)(m_1:zH)(code_6:List Ins):Option (zH×(List Ins)):=
 (idx c38 i6).bind fun x4=>
 (pz4d fuel m_1 x4).bind fun(r4,m3)=>
 (app code_6 [r4]).bind fun l10=>
 some (m3,l10)
def pz4k(fuel:Nat)(d_1:Drf)(l8:List Int)(i5:Int)(c22:Bool)(c23:ByteArray)(c24:List Rg)(c25:List Opd)(c26:List Bl)(c27:List Int)(c28:List Int)(c29:List Int)(code_4:List Ins):Option (Bool×ByteArray×(List Rg)×(List Opd)×(List Bl)×(List Int)×(List Int)×(List Int)×(List Ins)):=
 (if decide (i5<(d_1.blocks.length:Int))=true then
  (idx d_1.blocks i5).bind fun x3=>
  some (x3.code,x3.term,x3.a,x3.b,x3.v)
 else
  some (([]:List DIns),0,0,0,0):Option ((List DIns)×Int×Int×Int×Int)).bind fun(c38,c39,c40,c41,c42)=>
 (app ([]:List Int) l8).bind fun l9=>
 (toN 0 (c38.length:Int) (fun i s=>pz4j fuel c38 i s.1 s.2) ((⟨(⟨c22,c23,c24,c25,c26⟩:Fnc),(⟨c27,c28⟩:A2 (List Int)),l9⟩:zH),code_4)).bind fun(m_2,code_7)=>
 (pz4e fuel m_2 (⟨c38,c39,c40,c41,c42⟩:DBl) i5 (if 1>(d_1.blocks.length:Int) then 1 else(d_1.blocks.length:Int))).bind fun r5=>
 (app code_7 [r5]).bind fun l11=>
 (pz49 fuel i5).bind fun r6=>
 (app m_2.f.blocks [(⟨r6,false,([]:List Opd),l11⟩:Bl)]).bind fun l12=>
 some (m_2.f.machine,m_2.f.name,m_2.f.regs,m_2.f.params,l12,m_2.ids.a0,m_2.ids.a1,m_2.has,([]:List Ins))
def pz4l(fuel:Nat)(d_1:Drf):Option Fnc:=
 (toN 0 2 (fun i s=>pz4g fuel d_1 i s.1 s.2) (([]:List Int),([]:List Int))).bind fun(c3,c4)=>
 (toN 0 12 (fun i s=>pz4h fuel d_1 i s) ([]:List Rg)).bind fun c14=>
 bindE (loopE fuel (fun s=>pz4i fuel d_1 c14 s.1 s.2.1 s.2.2.1 s.2.2.2) (0,([]:List Opd),([]:List Int),([]:List Ins))) (fun(i_4,c18,c19,code_2)=>
 (app ([]:List Int) c19).bind fun l8=>
 (toN 0 (if 1>(d_1.blocks.length:Int) then 1 else(d_1.blocks.length:Int)) (fun i s=>pz4k fuel d_1 l8 i s.1 s.2.1 s.2.2.1 s.2.2.2.1 s.2.2.2.2.1 s.2.2.2.2.2.1 s.2.2.2.2.2.2.1 s.2.2.2.2.2.2.2.1 s.2.2.2.2.2.2.2.2) (false,(⟨#[102]⟩:ByteArray),c14,c18,([]:List Bl),c3,c4,c19,code_2)).bind fun(c30,c31,c32,c33,c34,c35,c36,c37,code_5)=>
 some (⟨c30,c31,c32,c33,c34⟩:Fnc)) some
def pz4m(fuel:Nat)(d_1:Drf):Option Bool:=
 (pz45 fuel d_1).bind fun r1=>
 if r1=true then
  (pz3q fuel).bind fun r2=>
  some r2
 else
  (pz4l fuel d_1).bind fun r3=>
  (pz3p fuel r3).bind fun r4=>
  (if r4=true then(pz3q fuel).bind fun r5=>
  some r5 else some false).bind fun b1=>
  some b1
end Go.Proofs.YtmogcnnhbmaffaaGreat.PL
