import Derived.Test.YtobpgndkciofhaaGreatDoorAG
set_option linter.all false
namespace Go.Proofs.YtobpgndkciofhaaGreatDoor
open Go.RowKit Go.Proofs.Tryz
open Go.Lib (hid)
set_option maxRecDepth 100000
set_option maxHeartbeats 16000000
theorem p' {w X:World} {g T:Nat} {a b c d e f h:Value} (B:ao X g T #[a,b,c,d,e,f,h]) (aa:Kept w X) (ai:w.heap.size≤g) (eP bY bc eh dy c9 eE:Value):
  ao (((((((X.setCell ⟨g,0,none⟩ eP).setCell ⟨g,1,none⟩ bY).setCell ⟨g,2,none⟩ bc).setCell ⟨g,3,none⟩ eh).setCell ⟨g,4,none⟩ dy).setCell ⟨g,5,none⟩ c9).setCell ⟨g,6,none⟩ eE) g T #[eP,bY,bc,eh,dy,c9,eE]∧
  Kept w (((((((X.setCell ⟨g,0,none⟩ eP).setCell ⟨g,1,none⟩ bY).setCell ⟨g,2,none⟩ bc).setCell ⟨g,3,none⟩ eh).setCell ⟨g,4,none⟩ dy).setCell ⟨g,5,none⟩ c9).setCell ⟨g,6,none⟩ eE):=by
 refine⟨?_,?_⟩
 ·have:=((((((B.aP 0 eP).aP 1 bY).aP 2 bc).aP 3 eh).aP 4 dy).aP 5 c9).aP 6 eE;simpa using this
 ·repeat refine Kept.setCell ?_ (by simp only;omega) _
  exact aa
theorem ad3 (x:kS) (A:Option Addr) (n c:Nat) (w:World):Calls prog 28 #[Ct x (.slice A n c)] w (Kd x w):=by
 have dn:=hid (fun w1=>YW x A n c w1);unfold dE at dn;have aV:=hid (show∀(h q p f:Int) (w':World),(lX x→h=1)→(¬lX x→h=0)→(0≤h∧h≤1)→(0≤q∧q≤1)→(0≤p∧p≤1)→(0≤f∧f≤1)→Kept w w'→Kd x w (.returned (uB 1 h q p f 0 0)) w' from fun h q p f w' cE a2 a3 a4 a5 jE aa=>⟨h,q,p,f,rfl,cE,a2,a3,a4,a5,jE,aa⟩);generalize dJ:Kd x w=P at*;clear dJ;generalize lX x=C at*;obtain⟨⟨b9,cL,an⟩,⟨dv,be,cc⟩,ft,gF⟩:=x;unfold Ct at dn⊢;dsimp only at*;go_enter func28,ntmps28
 go_upto_region 2 with fail
 generalize ar:((w.alloc _).alloc _).alloc _=V at*;obtain⟨aF,aS,aT,bU⟩:=Kept.b7 ar;clear ar;have cN:=hid aF;obtain⟨aC,a7⟩:=aS.p;have cg:=hid (fun w1 (h:Kept V w1)=>And.intro (aS.kept h) (And.intro (aT.kept h) (bU.kept h)));clear aS aT bU aF;by_cases hC:C
 case pos=>
  have bI:=hid hC;clear hC;go_upto_region 4 with (go_at_call 10;refine (dn.out _).mono ?_;rintro az w1 ⟨b,rfl,J,ak⟩;obtain rfl:b=true:=(by exact J.2 bI.out);clear J;obtain⟨bY,bc,eh⟩:=cg.out _ ak;have bB:=cN.out.trans ak;have a1:=eh.cell;have dz:=eh.lt;have f3:=eh.frozen)
  have d3:ao (w1.setCell ⟨w.heap.size+1+1,1,none⟩ (.int .i64 1)) (w.heap.size+1+1) 37 #[.int .i64 1,.int .i64 1,(),(),(),(),()]:=by
   have:=eh.aP 1 (.int .i64 1);simpa using this
  have d1:=bY.far (p:=⟨w.heap.size+1+1,1,none⟩) (by simp only;omega) (.int .i64 1);have d2:=bc.far (p:=⟨w.heap.size+1+1,1,none⟩) (by simp only;omega) (.int .i64 1);have bR:=bB.setCell (p:=⟨w.heap.size+1+1,1,none⟩) (by simp only;omega) (.int .i64 1);clear bY bc eh bB aC a7 a1 dz f3 ak;generalize w1.setCell ⟨w.heap.size+1+1,1,none⟩ (.int .i64 1)=X at*;have hc:=hid d2;have HD3:=hid d3;have gj:=hid bR;obtain⟨aC,a7⟩:=d1.p;obtain⟨aM,bx,f2⟩:=d2.q;obtain⟨a1,dz,f3⟩:=d3.q;clear d1 d2 d3 bR dn cg;by_cases I:ft=0
  case neg=>
   obtain⟨aO,aN⟩:=fr I;clear I;have bq:=hid (p' hc.out gj.out (by omega) (.int .i64 1) (.int .i64 1) () () () () ());go_wp2_with fail
   have cu:=bq.out.1.cell;exact bodyPost_ret (v:= .agg #[.int .i64 1,.int .i64 1,(),(),(),(),()]) (by simp[results,results28,go_sem,cu]) rfl (aV.out 1 0 0 0 _ (fun _=>rfl) (fun k=>absurd bI.out k) (by decide) (by decide) (by decide) (by decide) bq.out.2)
  subst I;by_cases U:gF=0
  case neg=>
   obtain⟨aO,aN⟩:=fr U;clear U;have bq:=hid (p' (hc.out.far (p:=⟨w.heap.size+1+1,4,none⟩) (by simp only;omega) (.int .i64 1)) (gj.out.setCell (p:=⟨w.heap.size+1+1,4,none⟩) (by simp only;omega) (.int .i64 1)) (by omega) (.int .i64 1) (.int .i64 1) () () (.int .i64 1) () ());go_wp2_with fail
   have cu:=bq.out.1.cell;exact bodyPost_ret (v:= .agg #[.int .i64 1,.int .i64 1,(),(),.int .i64 1,(),()]) (by simp[results,results28,go_sem,cu]) rfl (aV.out 1 0 0 1 _ (fun _=>rfl) (fun k=>absurd bI.out k) (by decide) (by decide) (by decide) (by decide) bq.out.2)
  subst U;rcases Int.lt_trichotomy an cc with ae|ae|ae
  ·have aJ:¬(cc<an):=by omega
   have bq:=hid (p' (hc.out.far (p:=⟨w.heap.size+1+1,2,none⟩) (by simp only;omega) (.int .i64 1)) (gj.out.setCell (p:=⟨w.heap.size+1+1,2,none⟩) (by simp only;omega) (.int .i64 1)) (by omega) (.int .i64 1) (.int .i64 1) (.int .i64 1) () () () ());go_wp2_with fail
   have cu:=bq.out.1.cell;exact bodyPost_ret (v:= .agg #[.int .i64 1,.int .i64 1,.int .i64 1,(),(),(),()]) (by simp[results,results28,go_sem,cu]) rfl (aV.out 1 1 0 0 _ (fun _=>rfl) (fun k=>absurd bI.out k) (by decide) (by decide) (by decide) (by decide) bq.out.2)
  ·subst ae;have bq:=hid (p' hc.out gj.out (by omega) (.int .i64 1) (.int .i64 1) () () () () ());go_wp2_with fail
   have cu:=bq.out.1.cell;exact bodyPost_ret (v:= .agg #[.int .i64 1,.int .i64 1,(),(),(),(),()]) (by simp[results,results28,go_sem,cu]) rfl (aV.out 1 0 0 0 _ (fun _=>rfl) (fun k=>absurd bI.out k) (by decide) (by decide) (by decide) (by decide) bq.out.2)
  ·have aJ:¬(an<cc):=by omega
   have bq:=hid (p' (hc.out.far (p:=⟨w.heap.size+1+1,3,none⟩) (by simp only;omega) (.int .i64 1)) (gj.out.setCell (p:=⟨w.heap.size+1+1,3,none⟩) (by simp only;omega) (.int .i64 1)) (by omega) (.int .i64 1) (.int .i64 1) () (.int .i64 1) () () ());go_wp2_with fail
   have cu:=bq.out.1.cell;exact bodyPost_ret (v:= .agg #[.int .i64 1,.int .i64 1,(),.int .i64 1,(),(),()]) (by simp[results,results28,go_sem,cu]) rfl (aV.out 1 0 1 0 _ (fun _=>rfl) (fun k=>absurd bI.out k) (by decide) (by decide) (by decide) (by decide) bq.out.2)
 case neg=>
  have bI:=hid hC;clear hC;go_upto_region 4 with (go_at_call 10;refine (dn.out _).mono ?_;rintro az w1 ⟨b,rfl,J,ak⟩;obtain rfl:b=false:=(by cases b<;>first|rfl|exact absurd (J.1 rfl) bI.out);clear J;obtain⟨bY,bc,eh⟩:=cg.out _ ak;have bB:=cN.out.trans ak;have a1:=eh.cell;have dz:=eh.lt;have f3:=eh.frozen)
  have d1:=bY;have d2:=bc;have d3:=eh;have bR:=bB;clear bY bc eh bB aC a7 a1 dz f3 ak;generalize w1=X at*;have hc:=hid d2;have HD3:=hid d3;have gj:=hid bR;obtain⟨aC,a7⟩:=d1.p;obtain⟨aM,bx,f2⟩:=d2.q;obtain⟨a1,dz,f3⟩:=d3.q;clear d1 d2 d3 bR dn cg;by_cases I:ft=0
  case neg=>
   obtain⟨aO,aN⟩:=fr I;clear I;have bq:=hid (p' hc.out gj.out (by omega) (.int .i64 1) () () () () () ());go_wp2_with fail
   have cu:=bq.out.1.cell;exact bodyPost_ret (v:= .agg #[.int .i64 1,(),(),(),(),(),()]) (by simp[results,results28,go_sem,cu]) rfl (aV.out 0 0 0 0 _ (fun k=>absurd k bI.out) (fun _=>rfl) (by decide) (by decide) (by decide) (by decide) bq.out.2)
  subst I;by_cases U:gF=0
  case neg=>
   obtain⟨aO,aN⟩:=fr U;clear U;have bq:=hid (p' (hc.out.far (p:=⟨w.heap.size+1+1,4,none⟩) (by simp only;omega) (.int .i64 1)) (gj.out.setCell (p:=⟨w.heap.size+1+1,4,none⟩) (by simp only;omega) (.int .i64 1)) (by omega) (.int .i64 1) () () () (.int .i64 1) () ());go_wp2_with fail
   have cu:=bq.out.1.cell;exact bodyPost_ret (v:= .agg #[.int .i64 1,(),(),(),.int .i64 1,(),()]) (by simp[results,results28,go_sem,cu]) rfl (aV.out 0 0 0 1 _ (fun k=>absurd k bI.out) (fun _=>rfl) (by decide) (by decide) (by decide) (by decide) bq.out.2)
  subst U;rcases Int.lt_trichotomy an cc with ae|ae|ae
  ·have aJ:¬(cc<an):=by omega
   have bq:=hid (p' (hc.out.far (p:=⟨w.heap.size+1+1,2,none⟩) (by simp only;omega) (.int .i64 1)) (gj.out.setCell (p:=⟨w.heap.size+1+1,2,none⟩) (by simp only;omega) (.int .i64 1)) (by omega) (.int .i64 1) () (.int .i64 1) () () () ());go_wp2_with fail
   have cu:=bq.out.1.cell;exact bodyPost_ret (v:= .agg #[.int .i64 1,(),.int .i64 1,(),(),(),()]) (by simp[results,results28,go_sem,cu]) rfl (aV.out 0 1 0 0 _ (fun k=>absurd k bI.out) (fun _=>rfl) (by decide) (by decide) (by decide) (by decide) bq.out.2)
  ·subst ae;have bq:=hid (p' hc.out gj.out (by omega) (.int .i64 1) () () () () () ());go_wp2_with fail
   have cu:=bq.out.1.cell;exact bodyPost_ret (v:= .agg #[.int .i64 1,(),(),(),(),(),()]) (by simp[results,results28,go_sem,cu]) rfl (aV.out 0 0 0 0 _ (fun k=>absurd k bI.out) (fun _=>rfl) (by decide) (by decide) (by decide) (by decide) bq.out.2)
  ·have aJ:¬(an<cc):=by omega
   have bq:=hid (p' (hc.out.far (p:=⟨w.heap.size+1+1,3,none⟩) (by simp only;omega) (.int .i64 1)) (gj.out.setCell (p:=⟨w.heap.size+1+1,3,none⟩) (by simp only;omega) (.int .i64 1)) (by omega) (.int .i64 1) () () (.int .i64 1) () () ());go_wp2_with fail
   have cu:=bq.out.1.cell;exact bodyPost_ret (v:= .agg #[.int .i64 1,(),(),.int .i64 1,(),(),()]) (by simp[results,results28,go_sem,cu]) rfl (aV.out 0 0 1 0 _ (fun k=>absurd k bI.out) (fun _=>rfl) (by decide) (by decide) (by decide) (by decide) bq.out.2)
theorem acg (a0 cE a2 a3 a4 a5 jE eP bY bc eh dy c9 eE:Int) (w:World) (aj: -1000000≤a0∧a0≤1000000) (mH: -1000000≤eP∧eP≤1000000) (I: -1000000≤cE∧cE≤1000000) (ak: -1000000≤bY∧bY≤1000000) (U: -1000000≤a2∧a2≤1000000) (a': -1000000≤bc∧bc≤1000000) (ae: -1000000≤a3∧a3≤1000000) (bw: -1000000≤eh∧eh≤1000000) (aJ: -1000000≤a4∧a4≤1000000) (cG: -1000000≤dy∧dy≤1000000):Calls prog 29 #[uB a0 cE a2 a3 a4 a5 jE,uB eP bY bc eh dy c9 eE] w (fun e w'=>e= .returned (uB (a0+eP) (cE+bY) (a2+bc) (a3+eh) (a4+dy) a5 jE)∧Kept w w'):=by
 unfold uB;have eb: -9223372036854775808≤a0+eP:=by omega
 have dL:a0+eP≤9223372036854775807:=by omega
 have aO: -9223372036854775808≤cE+bY:=by omega
 have dq:cE+bY≤9223372036854775807:=by omega
 have aN: -9223372036854775808≤a2+bc:=by omega
 have dR:a2+bc≤9223372036854775807:=by omega
 have cK: -9223372036854775808≤a3+eh:=by omega
 have fU:a3+eh≤9223372036854775807:=by omega
 have dA: -9223372036854775808≤a4+dy:=by omega
 have jN:a4+dy≤9223372036854775807:=by omega
 go_enter func29,ntmps29
 go_upto_region 1 with fail
 generalize ar:((w.alloc _).alloc _).alloc _=V at*;obtain⟨aF,aS,aT,bU⟩:=Kept.b7 ar;clear ar;have cN:=hid aF;have dr:=hid aT;have ji:=hid bU;clear aF;clear aj mH I ak U a' ae bw aJ cG;obtain⟨aC,a7,f1⟩:=aS.q;obtain⟨aM,bx⟩:=aT.p;go_upto_region 2 with fail
 have cr:ao (V.setCell ⟨w.heap.size,0,none⟩ (.int .i64 (a0+eP))) w.heap.size 37 #[.int .i64 (a0+eP),cE,a2,a3,a4,a5,jE]:=by
  have:=aS.aP 0 (.int .i64 (a0+eP));simpa using this
 have c2:=aT.far (p:=⟨w.heap.size,0,none⟩) (by simp only;omega) (.int .i64 (a0+eP));have fu:=bU.far (p:=⟨w.heap.size,0,none⟩) (by simp only;omega) (.int .i64 (a0+eP));have iP:=hid (cN.out.setCell (p:=⟨w.heap.size,0,none⟩) (Nat.le_refl _) (.int .i64 (a0+eP)));clear aC a7 f1 aM bx aS aT bU eb dL;generalize V.setCell ⟨w.heap.size,0,none⟩ (.int .i64 (a0+eP))=gd at*;have aS:=cr;have aT:=c2;have bU:=fu;clear cr c2 fu;obtain⟨aC,a7,f1⟩:=aS.q;obtain⟨aM,bx⟩:=aT.p;go_upto_region 3 with fail
 have cr:ao (gd.setCell ⟨w.heap.size,1,none⟩ (.int .i64 (cE+bY))) w.heap.size 37 #[.int .i64 (a0+eP),.int .i64 (cE+bY),a2,a3,a4,a5,jE]:=by
  have:=aS.aP 1 (.int .i64 (cE+bY));simpa using this
 have c2:=aT.far (p:=⟨w.heap.size,1,none⟩) (by simp only;omega) (.int .i64 (cE+bY));have fu:=bU.far (p:=⟨w.heap.size,1,none⟩) (by simp only;omega) (.int .i64 (cE+bY));have la:=hid (iP.out.setCell (p:=⟨w.heap.size,1,none⟩) (Nat.le_refl _) (.int .i64 (cE+bY)));clear aC a7 f1 aM bx aS aT bU aO dq;generalize gd.setCell ⟨w.heap.size,1,none⟩ (.int .i64 (cE+bY))=hO at*;have aS:=cr;have aT:=c2;have bU:=fu;clear cr c2 fu;obtain⟨aC,a7,f1⟩:=aS.q;obtain⟨aM,bx⟩:=aT.p;go_upto_region 4 with fail
 have cr:ao (hO.setCell ⟨w.heap.size,2,none⟩ (.int .i64 (a2+bc))) w.heap.size 37 #[.int .i64 (a0+eP),.int .i64 (cE+bY),.int .i64 (a2+bc),a3,a4,a5,jE]:=by
  have:=aS.aP 2 (.int .i64 (a2+bc));simpa using this
 have c2:=aT.far (p:=⟨w.heap.size,2,none⟩) (by simp only;omega) (.int .i64 (a2+bc));have fu:=bU.far (p:=⟨w.heap.size,2,none⟩) (by simp only;omega) (.int .i64 (a2+bc));have gM:=hid (la.out.setCell (p:=⟨w.heap.size,2,none⟩) (Nat.le_refl _) (.int .i64 (a2+bc)));clear aC a7 f1 aM bx aS aT bU aN dR;generalize hO.setCell ⟨w.heap.size,2,none⟩ (.int .i64 (a2+bc))=iv at*;have aS:=cr;have aT:=c2;have bU:=fu;clear cr c2 fu;obtain⟨aC,a7,f1⟩:=aS.q;obtain⟨aM,bx⟩:=aT.p;go_upto_region 5 with fail
 have cr:ao (iv.setCell ⟨w.heap.size,3,none⟩ (.int .i64 (a3+eh))) w.heap.size 37 #[.int .i64 (a0+eP),.int .i64 (cE+bY),.int .i64 (a2+bc),.int .i64 (a3+eh),a4,a5,jE]:=by
  have:=aS.aP 3 (.int .i64 (a3+eh));simpa using this
 have c2:=aT.far (p:=⟨w.heap.size,3,none⟩) (by simp only;omega) (.int .i64 (a3+eh));have fu:=bU.far (p:=⟨w.heap.size,3,none⟩) (by simp only;omega) (.int .i64 (a3+eh));have Jd:=hid (gM.out.setCell (p:=⟨w.heap.size,3,none⟩) (Nat.le_refl _) (.int .i64 (a3+eh)));clear aC a7 f1 aM bx aS aT bU cK fU;generalize iv.setCell ⟨w.heap.size,3,none⟩ (.int .i64 (a3+eh))=zG at*;have aS:=cr;have aT:=c2;have bU:=fu;clear cr c2 fu;obtain⟨aC,a7,f1⟩:=aS.q;obtain⟨aM,bx⟩:=aT.p;go_upto_region 6 with fail
 have cr:ao (zG.setCell ⟨w.heap.size,4,none⟩ (.int .i64 (a4+dy))) w.heap.size 37 #[.int .i64 (a0+eP),.int .i64 (cE+bY),.int .i64 (a2+bc),.int .i64 (a3+eh),.int .i64 (a4+dy),a5,jE]:=by
  have:=aS.aP 4 (.int .i64 (a4+dy));simpa using this
 have c2:=aT.far (p:=⟨w.heap.size,4,none⟩) (by simp only;omega) (.int .i64 (a4+dy));have fu:=bU.far (p:=⟨w.heap.size,4,none⟩) (by simp only;omega) (.int .i64 (a4+dy));have Ni:=hid (Jd.out.setCell (p:=⟨w.heap.size,4,none⟩) (Nat.le_refl _) (.int .i64 (a4+dy)));clear aC a7 f1 aM bx aS aT bU dA jN;generalize zG.setCell ⟨w.heap.size,4,none⟩ (.int .i64 (a4+dy))=DL at*;have aS:=cr;have aT:=c2;have bU:=fu;clear cr c2 fu;obtain⟨aC,a7⟩:=aS.p;obtain⟨a1,dz,f3⟩:=bU.q;have bq:=hid (p' bU Ni.out (by omega) (.int .i64 (a0+eP)) (.int .i64 (cE+bY)) (.int .i64 (a2+bc)) (.int .i64 (a3+eh)) (.int .i64 (a4+dy)) a5 jE);clear aS aT bU;go_wp2_with fail
 have cu:=bq.out.1.cell;exact bodyPost_ret (v:= .agg #[.int .i64 (a0+eP),.int .i64 (cE+bY),.int .i64 (a2+bc),.int .i64 (a3+eh),.int .i64 (a4+dy),a5,jE]) (by simp[results,results29,go_sem,cu]) rfl ⟨rfl,bq.out.2⟩
end Go.Proofs.YtobpgndkciofhaaGreatDoor
