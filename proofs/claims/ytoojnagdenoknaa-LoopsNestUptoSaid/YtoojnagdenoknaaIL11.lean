/- The ideal logic, part 11: regions whose order is the text's. Nothing here speaks of a given program. -/
import Derived.Test.YtoojnagdenoknaaILY
set_option linter.unusedSectionVars false
set_option linter.unnecessarySimpa false
set_option linter.unusedVariables false
set_option linter.unusedSimpArgs false
namespace Go.Proofs.Ytoojnagdenoknaa.IL
open Go Go.RowKit
def stepK(P:Program)(o:Oper)(a:Fr)(H:Heap)(K:IV→Heap→Prop):Prop:=
 match iop P o a H with
 |some (v,e)=>K v (e.app H (a.b+o.dst.getD 0))
 |none=>match o.op with
  | .call c=>match icallee a c with
   |some (f,args)=>CallW P f args H K
   |none=>match iyield a c with
    |some (id,args)=>YW P id args H K
    |none=>False
  |_=>False
def wantK(w:Option Bool)(A B:Prop):Prop:=
 match w with
 |some true=>A
 |some false=>B
 |none=>False
def vcOps(P:Program)(ops:Array Oper):List Oper→(Fr→Heap→Prop)→Fr→Heap→Prop
 |[],K,a,H=>K a H
 |o::rest,K,a,H=>a.has o.dst=true∧wantK (iwant ops o a) (stepK P o a H fun v H'=>vcOps P ops rest K (a.putO o.dst v) H') (vcOps P ops rest K (a.putO o.dst (.tup [])) H)
theorem yC(ra:Act)(d:Option Tmp)(u:Value):(ra.put d u).defers=ra.defers:=by cases d<;>rfl
theorem iop_ndef{P:Program}{o:Oper}{a:Fr}{H:Heap}{r:IV×Eff}(h:iop P o a H=some r): ∀c,o.op≠ .defer c:=by
 intro c hc
 obtain⟨dst,op,type,pos,after,guard⟩:=o
 simp only at hc
 subst hc
 simp[iop] at h
theorem yi{P:Program}{o:Oper}{a:Fr}{H:Heap}{K:IV→Heap→Prop}(h:stepK P o a H K){J:Inj}{S:Sure}{ra:Act}{w:World}(hF:RelF J S a ra)(hH:RelH J S H w)
  {N:Act→World→Prop} {Q:Exit→Act→World→Prop} (hN: ∀v H' J' S' u w',K v H'→VR J' S' v u→RelH J' S' H' w'→Ext J S H w J' S' H' w'→N (ra.put o.dst u) w') (ro:Option Nat):o.wpIn (FX ro) 0 P ra w N Q:=by
 refine⟨fun _ _=>trivial,?_⟩
 show o.uponIn (FX ro) 0 P ra N Q ((o.semAt ro ra.eval).run P w)
 unfold stepK at h
 split at h
 ·rename_i v e hi
  obtain⟨u,w',J',hrun,hv,hH',hE⟩:=iop_sound hi hF hH
  rcases hrun with hrun|⟨hrun,rfl⟩
  ·rw[Oper.semAt_eq _ _ _ (iop_ndef hi),hrun,Oper.uponIn_value]
   exact hN v _ J' S u w' h hv hH' hE
  ·rw[Oper.semAt_eq _ _ _ (iop_ndef hi),hrun,Oper.uponIn_skip]
   exact hN v _ J' S undef w' h hv hH' hE
 ·split at h
  ·rename_i c hc
   split at h
   ·rename_i f args hcal
    obtain⟨us,hrun,hus⟩:=icallee_run hcal hF h.1 hc w
    rw[Oper.semAt_eq _ _ _ (fun c' e=>by rw[hc] at e;cases e),hrun,Oper.uponIn_enter]
    refine⟨FX_depth,callsIn_FX ((h.2 J S w us hF.glob hH hus).mono ?_)⟩
    rintro e w' ⟨J',S',u,v,H',rfl,hK,hv,hH',hE⟩
    exact hN v H' J' S' u w' hK hv hH' hE
   ·split at h
    ·rename_i id args hy
     obtain⟨L,us,hJ,hus,hrun⟩:=iyield_run (P:=P) hy hF hc w
     obtain⟨fn,tmps,assign,body,hr,hR⟩:=h.sound hH hus hJ ro
     rw[Oper.semAt_eq _ _ _ (fun c' e=>by rw[hc] at e;cases e),hrun _ hr,Oper.uponIn_round]
     refine⟨FX_depth,hR.mono ?_⟩
     rintro e w' ⟨J',S',u,v,H',rfl,hK,hv,hH',hE'⟩
     exact hN v H' J' S' u w' hK hv hH' hE'
    ·exact h.elim
  ·exact h.elim
theorem kz{P:Program}{ops:Array Oper}{Q:Exit→Fr→Heap→Prop}{J0:Inj}{S0:Sure}{H0:Heap}{w0:World}: ∀(l:List Oper) (a:Fr) (H:Heap),vcOps P ops l (Q .normal) a H→
  ∀B ro J S ra w,RelF J S a ra→RelH J S H w→Okr B ro ra.defers w→Ext J0 S0 H0 w0 J S H w→wpListIn (FX ro) 0 P ops (Post B ro Q J0 S0 H0 w0) l ra w
 |[],a,H,h,B,ro,J,S,ra,w,hF,hH,hO,hE=>⟨J,S,a,H,h,hF,hH,hE,hO⟩
 |o::rest,a,H,h,B,ro,J,S,ra,w,hF,hH,hO,hE=>by
  obtain⟨hd,h⟩:=h
  refine wpListIn_step fun K hK=>?_
  unfold wantK at h
  split at h
  ·rename_i hw
   rw[yB hw hF,if_pos rfl]
   refine yi h hF hH ?_ ro
   intro v H' J' S' u w' hv hvr hH' hE'
   refine hK _ _ (kz rest _ H' hv B ro J' S' _ w' ?_ hH' ?_ (hE.trans hE'))
   ·exact(hF.mono hE'.hJ hE'.hS).put hd hvr
   ·rw[yC];exact hO.ext hH hE'
  ·rename_i hw
   rw[yB hw hF,if_neg (by simp)]
   exact⟨fun _ _=>trivial,hK _ _ (kz rest _ H h B ro J S _ w (hF.put hd (.undef _ _)) hH (by rw[yC];exact hO) hE)⟩
  ·exact h.elim
theorem W_region{P:Program}{Q:Exit→Fr→Heap→Prop}{a:Fr}{H:Heap}{id:Nat}{ops:Array Oper}(h:vcOps P ops ops.toList (Q .normal) a H):W P (.region id ops false) Q a H:=
 fun B ro J S ra w hF hH hO=>wpIn_region_list (kz ops.toList a H h B ro J S ra w hF hH hO .refl)
end Go.Proofs.Ytoojnagdenoknaa.IL
