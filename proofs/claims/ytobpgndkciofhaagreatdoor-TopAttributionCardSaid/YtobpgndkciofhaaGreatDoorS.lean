import Derived.Test.YtobpgndkciofhaaGreatDoorR
set_option linter.all false
namespace Go.Proofs.YtobpgndkciofhaaGreatDoor
open Go.RowKit Go.Proofs.Tryz
open Go.Lib (hid)
set_option maxRecDepth 100000
set_option maxHeartbeats 8000000
theorem agr (v:Value) (e:List cz) (E:dC) (F cA a7 bx g:Nat) (w:World) (G1:wE e E cA) (G3:cA<F) (lj:wE e E a7) (mB:a7<F) (oU:wE e E bx) (KH:bx<F) (dZ:tg w v e (cF e).1 E) (br:Mon w) (aU:ao w g 3 (qO [(cA:Int),(a7:Int),(bx:Int)])):
  Calls prog 110 #[v,.agg #[.int .i64 26,()],.slice (some ⟨g,0,none⟩) 3 3] w (fN (yz ⟨26,0⟩ (fun j=>fY ca E e (cF e).1 F ([(cA:Int),(a7:Int),(bx:Int)][j]?.getD 0))) w):=by
 have wi:=hid (fun w1 (h:Kept w w1)=>On v e E cA F w1 G1 G3 (dZ.kept h) (br.kept h));have Bd:=hid (fun w1 (h:Kept w w1)=>lj F mB v w1 (dZ.kept h) (br.kept h));have l1:=hid (fun w1 (h:Kept w w1)=>oU F KH v w1 (dZ.kept h) (br.kept h));obtain⟨ny,b2,cl,aC,cM,aM,cX,a1,ef,bN,dk,bJ,rfl,bM,bj,-⟩:=dZ;obtain⟨A,cap,rfl,-⟩:=bM.at_;obtain⟨qp,ly,rfl,-⟩:=CH bj;generalize e.length=en at*;generalize (cF e).1.length=dQ at*;obtain⟨R,aw⟩:∃R,R=yz ⟨26,0⟩ (fun j=>fY ca E e (cF e).1 F ([(cA:Int),(a7:Int),(bx:Int)][j]?.getD 0)):=⟨_,rfl⟩;rw[←aw];replace aw:R=if (nh (fY ca E e (cF e).1 F cA)).2≠0 then (v0,(nh (fY ca E e (cF e).1 F cA)).2)
  else if (nh (fY ca E e (cF e).1 F cA)).1.n=1 then fY ca E e (cF e).1 F a7 else fY ca E e (cF e).1 F bx:=by
  subst aw;unfold yz;rfl
 generalize xc:nh (fY ca E e (cF e).1 F cA)=pa at*;clear xc;obtain⟨⟨k,gY,hY⟩,rc⟩:=pa;obtain⟨⟨eX,gw,dw⟩,sc⟩:=R;unfold fN at*;clear bM bj br G1 G3 lj mB oU KH;generalize fY ca E e (cF e).1 F a7=im at*;generalize fY ca E e (cF e).1 F bx=i_ at*;obtain⟨⟨ak,az,m1⟩,s8⟩:=im;obtain⟨⟨a',a6,m2⟩,k7⟩:=i_;have av:=hid aw;clear aw;go_enter func110,ntmps110
 go_upto_region 3 with fail
 generalize ar:((w.alloc _).alloc _).alloc _=W at*;obtain⟨aF,a_,aS,aT⟩:=Kept.b7 ar;clear ar;have hI:=aU.kept aF;have ej:=hid (show∀X,Kept W X→Kept W X∧X.cell? ⟨w.heap.size,0,none⟩=some (.slice A en cap)∧X.cell? ⟨w.heap.size,1,none⟩=some (.slice qp dQ ly)∧X.cell? ⟨w.heap.size,2,none⟩=some (.int .i64 E.dt)∧X.cell? ⟨w.heap.size,3,none⟩=some (.slice cl E.ins.length aC)∧X.cell? ⟨w.heap.size,4,none⟩=some (.slice cM E.ds.length aM)∧X.cell? ⟨w.heap.size,5,none⟩=some (.slice cX E.ms.length a1)∧X.cell? ⟨w.heap.size,6,none⟩=some (.slice ef E.mt.length bN)∧X.cell? ⟨w.heap.size,7,none⟩=some (.slice dk E.tb.length bJ)∧X.cell? ⟨g,0,none⟩=some (.int .i64 cA)from fun X h=>⟨h,h.ad a_.lt (a_.cell 0),h.ad a_.lt (a_.cell 1),h.ad a_.lt (a_.cell 2),h.ad a_.lt (a_.cell 3),h.ad a_.lt (a_.cell 4),h.ad a_.lt (a_.cell 5),h.ad a_.lt (a_.cell 6),h.ad a_.lt (a_.cell 7),h.ad hI.lt (by rw[hI.cell];rfl)⟩);have kV:=hI.lt;have Q0:=a_.lt;go_region_held3 (fun X=>Kept W X∧X.cell? ⟨w.heap.size,0,none⟩=some (.slice A en cap)∧X.cell? ⟨w.heap.size,1,none⟩=some (.slice qp dQ ly)∧X.cell? ⟨w.heap.size,2,none⟩=some (.int .i64 E.dt)∧X.cell? ⟨w.heap.size,3,none⟩=some (.slice cl E.ins.length aC)∧X.cell? ⟨w.heap.size,4,none⟩=some (.slice cM E.ds.length aM)∧X.cell? ⟨w.heap.size,5,none⟩=some (.slice cX E.ms.length a1)∧X.cell? ⟨w.heap.size,6,none⟩=some (.slice ef E.mt.length bN)∧X.cell? ⟨w.heap.size,7,none⟩=some (.slice dk E.tb.length bJ)∧X.cell? ⟨g,0,none⟩=some (.int .i64 cA))
  ((refine ej.out _ ?_;(with_reducible repeat (first|exact .refl _|assumption|refine .drew ?_|refine .alloc ?_ _|refine .setCell ?_ (by simp only;omega) _|refine .trans ?_ ‹Kept _ _›))))
  ((go_at_call 139;refine (wi.out _ (aF.trans ?_)).mono ?_;(·(with_reducible repeat (first|exact .refl _|assumption|refine .drew ?_|refine .alloc ?_ _|refine .setCell ?_ (by simp only;omega) _|refine .trans ?_ ‹Kept _ _›)));rintro e w' ⟨rfl,gC⟩;(try (have bM:=ao.kept (ao.drew (ao.new W 44 #[(),(),()])) gC;have j9:=bM.cell;have ke:=bM.frozen;have rN:=bM.lt));have mb:=Below.size gC;(try simp at mb)))
 all_goals
  first
  |have bU:=((bM.aP 0 k).aP 1 gY).aP 2 hY
   have eV:Kept W (((w'.setCell ⟨W.heap.size,0,none⟩ k).setCell ⟨W.heap.size,1,none⟩ gY).setCell ⟨W.heap.size,2,none⟩ hY):=by
    have iI:Kept W w':=Kept.trans (Kept.drew (Kept.alloc (aQ _) _)) gC;refine Kept.setCell (Kept.setCell (Kept.setCell iI ?_ _) ?_ _) ?_ _<;>exact Nat.le_refl _
   replace bU:ao _ W.heap.size 44 #[k,gY,hY]:=bU;clear gC mb bM j9 ke rN;rename_i hHeld;clear hHeld;generalize ((w'.setCell ⟨W.heap.size,0,none⟩ k).setCell ⟨W.heap.size,1,none⟩ gY).setCell ⟨W.heap.size,2,none⟩ hY=e8 at eV bU⊢;generalize W.heap.size=g3 at bU⊢
  |have bU:=ao.new w' 44 #[k,gY,hY]
   have eV:Kept W (w'.alloc (.cells #[k,gY,hY] 44)):=Kept.alloc (Kept.trans (Kept.drew (aQ _)) gC) _;clear gC mb;rename_i hHeld;clear hHeld;generalize w'.alloc (.cells #[k,gY,hY] 44)=e8 at eV bU⊢;generalize w'.heap.size=g3 at bU⊢
  clear kV Q0;have bB:=aF.trans eV;have hJ:=a_.kept eV;have fc:=aS.kept eV;have cm:=aT.kept eV;have AX:=hI.kept eV;clear hI a_ aS aT ej;obtain⟨vh,vj,vi⟩:=cm.q;obtain⟨J7,J8⟩:=fc.p;obtain⟨DO,DP,wL⟩:=bU.q;replace av:=av.out;by_cases ah:rc=0
  case neg=>
   have hh:(rc !=0)=true:=by simpa using ah
   rw[if_pos ah]at av;obtain⟨rfl,rfl,rfl,rfl⟩:=h7 av;clear av ah;go_wp2_with fail
   have Z:=(((cm.aP 0 ()).aP 1 ()).aP 2 ()).cell;exact bodyPost_ret (v:= .tuple #[.agg #[(),(),()],.int .i64 (sc)]) (by simp[results,results110,go_sem,Z]) rfl ⟨rfl,(by with_reducible repeat first|exact .refl _|assumption|refine .drew ?_|refine .alloc ?_ _|refine .setCell ?_ (by (try simp only);omega) _|refine .trans ?_ ‹Kept _ _›)⟩
  subst ah;rw[if_neg (by simp)]at av;by_cases I:hY=1
  case pos=>
   have J:(hY==1)=true:=by simpa using I
   rw[if_pos I]at av;obtain⟨rfl,rfl,rfl,rfl⟩:=h7 av;clear av I;go_upto_region 7 with fail
   have a_:=hJ;have aT:=cm;have hI:=AX;clear hJ fc cm AX vh vi vj J7 J8 DO DP wL;have z0:=al.cell a_.lt (a_.cell 0);have e6:=al.cell a_.lt (a_.cell 1);have z2:=al.cell a_.lt (a_.cell 2);have z3:=al.cell a_.lt (a_.cell 3);have z4:=al.cell a_.lt (a_.cell 4);have z5:=al.cell a_.lt (a_.cell 5);have y2:=al.cell a_.lt (a_.cell 6);have Fx:=al.cell a_.lt (a_.cell 7);have e3:=al.cell (w:=e8) (b:=g) (o:=0) (v:= .int .i64 cA) hI.lt (by rw[hI.cell];rfl);have ee:=al.cell (w:=e8) (b:=g) (o:=1) (v:= .int .i64 a7) hI.lt (by rw[hI.cell];rfl);have fW:=al.cell (w:=e8) (b:=g) (o:=2) (v:= .int .i64 bx) hI.lt (by rw[hI.cell];rfl);have kV:=hI.lt;refine v8 7 (by kernel_rfl) (by kernel_rfl) ?_;simp only[List.take_succ_cons,List.take_zero,List.drop_succ_cons,List.drop_zero]
   repeat (go_big_quiet_step ((go_at_call 78;exact al.call (Bd.out _ (bB.trans (al.h _))))))
   refine wpQuiet_nil ?_;rintro eA ⟨⟨bt,vK⟩,bb⟩;obtain rfl:eA=bt:=bb;have cm:=aT.kept vK;have eO:=bB.trans vK;obtain⟨vh,vj,vi⟩:=cm.q;clear z0 e6 z2 z3 z4 z5 y2 Fx e3 ee fW kV;go_wp2_with fail
   have Z:=(((cm.aP 0 (.int .i64 (eX))).aP 1 (.int .i64 (gw))).aP 2 (.int .i64 (dw))).cell;exact bodyPost_ret (v:= .tuple #[.agg #[.int .i64 (eX),.int .i64 (gw),.int .i64 (dw)],.int .i64 (sc)]) (by simp[results,results110,go_sem,Z]) rfl ⟨rfl,(by with_reducible repeat first|exact .refl _|assumption|refine .drew ?_|refine .alloc ?_ _|refine .setCell ?_ (by (try simp only);omega) _|refine .trans ?_ ‹Kept _ _›)⟩
  case neg=>
   have J:(hY==1)=false:=by simpa using I
   rw[if_neg I]at av;obtain⟨rfl,rfl,rfl,rfl⟩:=h7 av;clear av I;go_upto_region 9 with fail
   have a_:=hJ;have aT:=cm;have hI:=AX;clear hJ fc cm AX vh vi vj J7 J8 DO DP wL;have z0:=al.cell a_.lt (a_.cell 0);have e6:=al.cell a_.lt (a_.cell 1);have z2:=al.cell a_.lt (a_.cell 2);have z3:=al.cell a_.lt (a_.cell 3);have z4:=al.cell a_.lt (a_.cell 4);have z5:=al.cell a_.lt (a_.cell 5);have y2:=al.cell a_.lt (a_.cell 6);have Fx:=al.cell a_.lt (a_.cell 7);have e3:=al.cell (w:=e8) (b:=g) (o:=0) (v:= .int .i64 cA) hI.lt (by rw[hI.cell];rfl);have ee:=al.cell (w:=e8) (b:=g) (o:=1) (v:= .int .i64 a7) hI.lt (by rw[hI.cell];rfl);have fW:=al.cell (w:=e8) (b:=g) (o:=2) (v:= .int .i64 bx) hI.lt (by rw[hI.cell];rfl);have kV:=hI.lt;refine v8 7 (by kernel_rfl) (by kernel_rfl) ?_;simp only[List.take_succ_cons,List.take_zero,List.drop_succ_cons,List.drop_zero]
   repeat (go_big_quiet_step ((go_at_call 78;exact al.call (l1.out _ (bB.trans (al.h _))))))
   refine wpQuiet_nil ?_;rintro eA ⟨⟨bt,vK⟩,bb⟩;obtain rfl:eA=bt:=bb;have cm:=aT.kept vK;have eO:=bB.trans vK;obtain⟨vh,vj,vi⟩:=cm.q;clear z0 e6 z2 z3 z4 z5 y2 Fx e3 ee fW kV;go_wp2_with fail
   have Z:=(((cm.aP 0 (.int .i64 (eX))).aP 1 (.int .i64 (gw))).aP 2 (.int .i64 (dw))).cell;exact bodyPost_ret (v:= .tuple #[.agg #[.int .i64 (eX),.int .i64 (gw),.int .i64 (dw)],.int .i64 (sc)]) (by simp[results,results110,go_sem,Z]) rfl ⟨rfl,(by with_reducible repeat first|exact .refl _|assumption|refine .drew ?_|refine .alloc ?_ _|refine .setCell ?_ (by (try simp only);omega) _|refine .trans ?_ ‹Kept _ _›)⟩
theorem ags (v:Value) (e:List cz) (E:dC) (F cA a7 g:Nat) (o:Int) (w:World) (G1:wE e E cA) (G3:cA<F) (lj:wE e E a7) (mB:a7<F) (dZ:tg w v e (cF e).1 E) (br:Mon w) (aU:ao w g 3 (qO [(cA:Int),(a7:Int)])) (aL:o=23∨o=24):
  Calls prog 110 #[v,.agg #[o,()],.slice (some ⟨g,0,none⟩) 2 2] w (fN (yz ⟨o,0⟩ (fun j=>fY ca E e (cF e).1 F ([(cA:Int),(a7:Int)][j]?.getD 0))) w):=by
 have wi:=hid (fun w1 (h:Kept w w1)=>On v e E cA F w1 G1 G3 (dZ.kept h) (br.kept h));have Bd:=hid (fun w1 (h:Kept w w1)=>On v e E a7 F w1 lj mB (dZ.kept h) (br.kept h));obtain⟨ny,b2,cl,aC,cM,aM,cX,a1,ef,bN,dk,bJ,rfl,bM,bj,-⟩:=dZ;obtain⟨A,cap,rfl,-⟩:=bM.at_;obtain⟨qp,ly,rfl,-⟩:=CH bj;generalize e.length=en at*;generalize (cF e).1.length=dQ at*;obtain⟨R,aw⟩:∃R,R=yz ⟨o,0⟩ (fun j=>fY ca E e (cF e).1 F ([(cA:Int),(a7:Int)][j]?.getD 0)):=⟨_,rfl⟩;rw[←aw];replace aw:R=if (nh (fY ca E e (cF e).1 F cA)).2≠0 then (v0,(nh (fY ca E e (cF e).1 F cA)).2)
  else if (o=23)=((nh (fY ca E e (cF e).1 F cA)).1.n=0)then ((nh (fY ca E e (cF e).1 F cA)).1,0)else nh (fY ca E e (cF e).1 F a7):=by
  subst aw;unfold yz;have Pg:(o=26)=False:=by simp;omega
  simp only[Pg,if_false];rfl
 generalize xc:nh (fY ca E e (cF e).1 F cA)=pa at*;clear xc;obtain⟨⟨k,gY,hY⟩,rc⟩:=pa;obtain⟨⟨eX,gw,dw⟩,sc⟩:=R;unfold fN at*;clear bM bj br G1 G3 lj mB;generalize nh (fY ca E e (cF e).1 F a7)=im at*;obtain⟨⟨ak,az,m1⟩,s8⟩:=im;have yq:(o==26)=false:=by simp;omega
 have av:=hid aw;clear aw;go_enter func110,ntmps110
 go_upto_region 3 with fail
 generalize ar:((w.alloc _).alloc _).alloc _=W at*;obtain⟨aF,a_,aS,aT⟩:=Kept.b7 ar;clear ar;have hI:=aU.kept aF;have ej:=hid (show∀X,Kept W X→Kept W X∧X.cell? ⟨w.heap.size,0,none⟩=some (.slice A en cap)∧X.cell? ⟨w.heap.size,1,none⟩=some (.slice qp dQ ly)∧X.cell? ⟨w.heap.size,2,none⟩=some (.int .i64 E.dt)∧X.cell? ⟨w.heap.size,3,none⟩=some (.slice cl E.ins.length aC)∧X.cell? ⟨w.heap.size,4,none⟩=some (.slice cM E.ds.length aM)∧X.cell? ⟨w.heap.size,5,none⟩=some (.slice cX E.ms.length a1)∧X.cell? ⟨w.heap.size,6,none⟩=some (.slice ef E.mt.length bN)∧X.cell? ⟨w.heap.size,7,none⟩=some (.slice dk E.tb.length bJ)∧X.cell? ⟨g,0,none⟩=some (.int .i64 cA)from fun X h=>⟨h,h.ad a_.lt (a_.cell 0),h.ad a_.lt (a_.cell 1),h.ad a_.lt (a_.cell 2),h.ad a_.lt (a_.cell 3),h.ad a_.lt (a_.cell 4),h.ad a_.lt (a_.cell 5),h.ad a_.lt (a_.cell 6),h.ad a_.lt (a_.cell 7),h.ad hI.lt (by rw[hI.cell];rfl)⟩);have kV:=hI.lt;have Q0:=a_.lt;go_region_held3 (fun X=>Kept W X∧X.cell? ⟨w.heap.size,0,none⟩=some (.slice A en cap)∧X.cell? ⟨w.heap.size,1,none⟩=some (.slice qp dQ ly)∧X.cell? ⟨w.heap.size,2,none⟩=some (.int .i64 E.dt)∧X.cell? ⟨w.heap.size,3,none⟩=some (.slice cl E.ins.length aC)∧X.cell? ⟨w.heap.size,4,none⟩=some (.slice cM E.ds.length aM)∧X.cell? ⟨w.heap.size,5,none⟩=some (.slice cX E.ms.length a1)∧X.cell? ⟨w.heap.size,6,none⟩=some (.slice ef E.mt.length bN)∧X.cell? ⟨w.heap.size,7,none⟩=some (.slice dk E.tb.length bJ)∧X.cell? ⟨g,0,none⟩=some (.int .i64 cA))
  ((refine ej.out _ ?_;(with_reducible repeat (first|exact .refl _|assumption|refine .drew ?_|refine .alloc ?_ _|refine .setCell ?_ (by simp only;omega) _|refine .trans ?_ ‹Kept _ _›))))
  ((go_at_call 139;refine (wi.out _ (aF.trans ?_)).mono ?_;(·(with_reducible repeat (first|exact .refl _|assumption|refine .drew ?_|refine .alloc ?_ _|refine .setCell ?_ (by simp only;omega) _|refine .trans ?_ ‹Kept _ _›)));rintro e w' ⟨rfl,gC⟩;(try (have bM:=ao.kept (ao.drew (ao.new W 44 #[(),(),()])) gC;have j9:=bM.cell;have ke:=bM.frozen;have rN:=bM.lt));have mb:=Below.size gC;(try simp at mb)))
 all_goals
  first
  |have bU:=((bM.aP 0 k).aP 1 gY).aP 2 hY
   have eV:Kept W (((w'.setCell ⟨W.heap.size,0,none⟩ k).setCell ⟨W.heap.size,1,none⟩ gY).setCell ⟨W.heap.size,2,none⟩ hY):=by
    have iI:Kept W w':=Kept.trans (Kept.drew (Kept.alloc (aQ _) _)) gC;refine Kept.setCell (Kept.setCell (Kept.setCell iI ?_ _) ?_ _) ?_ _<;>exact Nat.le_refl _
   replace bU:ao _ W.heap.size 44 #[k,gY,hY]:=bU;clear gC mb bM j9 ke rN;rename_i hHeld;clear hHeld;generalize ((w'.setCell ⟨W.heap.size,0,none⟩ k).setCell ⟨W.heap.size,1,none⟩ gY).setCell ⟨W.heap.size,2,none⟩ hY=e8 at eV bU⊢;generalize W.heap.size=g3 at bU⊢
  |have bU:=ao.new w' 44 #[k,gY,hY]
   have eV:Kept W (w'.alloc (.cells #[k,gY,hY] 44)):=Kept.alloc (Kept.trans (Kept.drew (aQ _)) gC) _;clear gC mb;rename_i hHeld;clear hHeld;generalize w'.alloc (.cells #[k,gY,hY] 44)=e8 at eV bU⊢;generalize w'.heap.size=g3 at bU⊢
  clear kV Q0;have bB:=aF.trans eV;have hJ:=a_.kept eV;have fc:=aS.kept eV;have cm:=aT.kept eV;have AX:=hI.kept eV;clear hI a_ aS aT ej;obtain⟨vh,vj,vi⟩:=cm.q;obtain⟨J7,J8⟩:=fc.p;obtain⟨DO,DP,wL⟩:=bU.q;replace av:=av.out;by_cases ah:rc=0
  case neg=>
   have hh:(rc !=0)=true:=by simpa using ah
   rw[if_pos ah]at av;obtain⟨rfl,rfl,rfl,rfl⟩:=h7 av;clear av ah;go_wp2_with fail
   have Z:=(((cm.aP 0 ()).aP 1 ()).aP 2 ()).cell;exact bodyPost_ret (v:= .tuple #[.agg #[(),(),()],.int .i64 (sc)]) (by simp[results,results110,go_sem,Z]) rfl ⟨rfl,(by with_reducible repeat first|exact .refl _|assumption|refine .drew ?_|refine .alloc ?_ _|refine .setCell ?_ (by (try simp only);omega) _|refine .trans ?_ ‹Kept _ _›)⟩
  subst ah;rw[if_neg (by simp)]at av
  cases au:((o==23)==(hY==0))
  case true=>
   rw[if_pos (by rw[beq_iff_eq]at au;by_cases I:o=23<;>by_cases U:hY=0<;>simp[I,U]at au⊢)]at av;obtain⟨rfl,rfl,rfl,rfl⟩:=h7 av;clear av;go_wp2_with fail
   have Z:=(((cm.aP 0 (.int .i64 (eX))).aP 1 (.int .i64 (gw))).aP 2 (.int .i64 (dw))).cell;exact bodyPost_ret (v:= .tuple #[.agg #[.int .i64 (eX),.int .i64 (gw),.int .i64 (dw)],()]) (by simp[results,results110,go_sem,Z]) rfl ⟨rfl,(by with_reducible repeat first|exact .refl _|assumption|refine .drew ?_|refine .alloc ?_ _|refine .setCell ?_ (by (try simp only);omega) _|refine .trans ?_ ‹Kept _ _›)⟩
  case false=>
   rw[if_neg (by cases ea:(o==23)<;>cases dK:(hY==0)<;>simp_all)]at av;obtain⟨rfl,rfl,rfl,rfl⟩:=h7 av;clear av;go_upto_region 12 with fail
   have a_:=hJ;have aT:=cm;have hI:=AX;clear hJ fc cm AX vh vi vj J7 J8 DO DP wL;have z0:=al.cell a_.lt (a_.cell 0);have e6:=al.cell a_.lt (a_.cell 1);have z2:=al.cell a_.lt (a_.cell 2);have z3:=al.cell a_.lt (a_.cell 3);have z4:=al.cell a_.lt (a_.cell 4);have z5:=al.cell a_.lt (a_.cell 5);have y2:=al.cell a_.lt (a_.cell 6);have Fx:=al.cell a_.lt (a_.cell 7);have e3:=al.cell (w:=e8) (b:=g) (o:=0) (v:= .int .i64 cA) hI.lt (by rw[hI.cell];rfl);have ee:=al.cell (w:=e8) (b:=g) (o:=1) (v:= .int .i64 a7) hI.lt (by rw[hI.cell];rfl);have kV:=hI.lt;refine v8 7 (by kernel_rfl) (by kernel_rfl) ?_;simp only[List.take_succ_cons,List.take_zero,List.drop_succ_cons,List.drop_zero]
   repeat (go_big_quiet_step ((go_at_call 139;exact al.call (Bd.out _ (bB.trans (al.h _))))))
   refine wpQuiet_nil ?_;rintro eA ⟨⟨bt,vK⟩,bb⟩;obtain rfl:eA=bt:=bb;have cm:=aT.kept vK;have eO:=bB.trans vK;obtain⟨vh,vj,vi⟩:=cm.q;clear z0 e6 z2 z3 z4 z5 y2 Fx e3 ee kV;go_wp2_with fail
   have Z:=(((cm.aP 0 (.int .i64 (eX))).aP 1 (.int .i64 (gw))).aP 2 (.int .i64 (dw))).cell;exact bodyPost_ret (v:= .tuple #[.agg #[.int .i64 (eX),.int .i64 (gw),.int .i64 (dw)],.int .i64 (sc)]) (by simp[results,results110,go_sem,Z]) rfl ⟨rfl,(by with_reducible repeat first|exact .refl _|assumption|refine .drew ?_|refine .alloc ?_ _|refine .setCell ?_ (by (try simp only);omega) _|refine .trans ?_ ‹Kept _ _›)⟩
theorem agt (v:Value) (bT:Value) (o n:Int) (R:bg×Int) (w:World) (aA:n≠0) (aw:R=(v0,2)) (A:Option Addr) (en cap:Nat) (qp:Option Addr) (dQ ly:Nat) (E:dC) (cl cM cX ef dk:Option Addr) (aC aM a1 bN bJ:Nat)
  (ay:v= .agg #[.slice A en cap,.slice qp dQ ly,E.dt,.slice cl E.ins.length aC,.slice cM E.ds.length aM,.slice cX E.ms.length a1,.slice ef E.mt.length bN,.slice dk E.tb.length bJ]):Calls prog 110 #[v,.agg #[o,n],bT] w (fN R w):=by
 subst ay;obtain⟨⟨eX,gw,dw⟩,rc⟩:=R;obtain⟨rfl,rfl,rfl,rfl⟩:=h7 aw;unfold fN;have J:(n !=0)=true:=by simpa using aA
 clear aw aA;go_enter func110,ntmps110
 go_wp2_with fail
 exact bodyPost_ret (v:= .tuple #[.agg #[(),(),()],.int .i64 2]) (by simp[results,results110,go_sem, *]) rfl ⟨rfl,(by with_reducible repeat first|exact .refl _|assumption|refine .drew ?_|refine .alloc ?_ _|refine .setCell ?_ (by (try simp only);omega) _|refine .trans ?_ ‹Kept _ _›)⟩
end Go.Proofs.YtobpgndkciofhaaGreatDoor
