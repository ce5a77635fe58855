import Derived.Test.YtilhklpfkgbikaaGreatDoorT
set_option linter.all false
namespace Go.Proofs.YtilhklpfkgbikaaGreatDoor
open Go.RowKit Go.Proofs.Tryz
set_option maxRecDepth 100000
set_option maxHeartbeats 8000000
def al6(v:ak)(e:List cw)(E:dT)(F cR bq b5 g:aa)(w:ag)(Mk:z8 e E cR)(Mm:cR<F)(mO:z8 e E bq)(tS:bq<F)(qD:z8 e E b5)(QL:b5<F)(c6:wQ w v e (c' e).1 E)(bN:Mon w)(bc:aB w g 3 (sl [(cR:J),(bq:J),(b5:J)])):
  bg 133 #[v,aF #[ah 26,()],ae (some (g,0)) 3 3] w (hA (CH ⟨26,0⟩ (λj=>hQ cz E e (c' e).1 F ([(cR:J),(bq:J),(b5:J)][j]?.getD 0))) w):=by
 have zM:=I (λw1(h:Kept w w1)=>Vd v e E cR F w1 Mk Mm (c6.kept h) (bN.kept h));have zR:=I (λw1(h:Kept w w1)=>mO F tS v w1 (c6.kept h) (bN.kept h));have oF:=I (λw1(h:Kept w w1)=>qD F QL v w1 (c6.kept h) (bN.kept h));obtain⟨p9,cH,dm,aY,dx,a',dq,bu,fr,b4,e6,b_,rfl,cd,bH,-⟩:=c6;obtain⟨A,cap,rfl,-⟩:=cd.at_;obtain⟨uH,oz,rfl,-⟩:=GW bH;generalize e.length=e9 at*;generalize (c' e).1.length=eC at*;obtain⟨R,aJ⟩:∃R,R=CH ⟨26,0⟩ (λj=>hQ cz E e (c' e).1 F ([(cR:J),(bq:J),(b5:J)][j]?.getD 0)):=⟨_,rfl⟩;rw[<-aJ];replace aJ:R=if (pV (hQ cz E e (c' e).1 F cR)).2≠0 then (v0,(pV (hQ cz E e (c' e).1 F cR)).2)
  else if (pV (hQ cz E e (c' e).1 F cR)).1.n=1 then hQ cz E e (c' e).1 F bq else hQ cz E e (c' e).1 F b5:=by
  subst aJ;unfold CH;rfl
 generalize xA:pV (hQ cz E e (c' e).1 F cR)=oy at*;clear xA;obtain⟨⟨k,hD,kI⟩,rc⟩:=oy;obtain⟨⟨cS,eo,di⟩,sc⟩:=R;unfold hA at*;clear cd bH bN Mk Mm mO tS qD QL;generalize hQ cz E e (c' e).1 F bq=hh at*;generalize hQ cz E e (c' e).1 F b5=iC at*;obtain⟨⟨au,aQ,m1⟩,rc1⟩:=hh;obtain⟨⟨bt,a_,m2⟩,YY⟩:=iC;have aE:=I aJ;clear aJ;go_enter func133,ntmps133
 go_upto_region 3 with fail
 generalize aL:((w.alloc _).alloc _).alloc _=W at*;obtain⟨aV,bo,bh,bm⟩:=Kept.cv aL;clear aL;have jE:=bc.kept aV;have eF:=I (show∀X,Kept W X->Kept W X/\aU X (w,0)=some (ae A e9 cap)/\aU X (w,1)=some (ae uH eC oz)/\aU X (w,2)=some (ah E.dt)/\aU X (w,3)=some (ae dm E.ins aY)/\aU X (w,4)=some (ae dx E.ds a')/\aU X (w,5)=some (ae dq E.ms bu)/\aU X (w,6)=some (ae fr E.mt b4)/\aU X (w,7)=some (ae e6 E.tb b_)/\aU X (g,0)=some (ah cR)from λX h=>⟨h,h.aI bo.lt (bo.cell 0),h.aI bo.lt (bo.cell 1),h.aI bo.lt (bo.cell 2),h.aI bo.lt (bo.cell 3),h.aI bo.lt (bo.cell 4),h.aI bo.lt (bo.cell 5),h.aI bo.lt (bo.cell 6),h.aI bo.lt (bo.cell 7),h.aI jE.lt (by rw[jE.cell];rfl)⟩);have ni:=jE.lt;have Yd:=bo.lt;go_region_held3 (λX=>Kept W X/\aU X (w,0)=some (ae A e9 cap)/\aU X (w,1)=some (ae uH eC oz)/\aU X (w,2)=some (ah E.dt)/\aU X (w,3)=some (ae dm E.ins aY)/\aU X (w,4)=some (ae dx E.ds a')/\aU X (w,5)=some (ae dq E.ms bu)/\aU X (w,6)=some (ae fr E.mt b4)/\aU X (w,7)=some (ae e6 E.tb b_)/\aU X (g,0)=some (ah cR))
  ((refine eF _ ?_;(with_reducible repeat (first|exact .refl _|assumption|refine .drew ?_|refine .alloc ?_ _|refine .setCell ?_ (by simp only;omega) _|refine .trans ?_ ‹Kept _ _›))))
  ((go_at_call 153;refine (zM _ (aV.trans ?_)).mono ?_;(·(with_reducible first|exact (aG _).drew|exact (aG _).aZ.drew));rintro e w'⟨rfl,iz⟩;(try (have cd:=aB.kept (aB.drew (aB.new W 34 #[(),(),()])) iz;have jL:=cd.cell;have mA:=cd.frozen;have uW:=cd.lt));have oR:=Below.size iz;(try simp at oR)))
 all_goals
  first
  |have cP:=((cd.ba 0 k).ba 1 hD).ba 2 kI
   have fT:Kept W (((w'.setCell ⟨W.heap.size,0,none⟩ k).setCell ⟨W.heap.size,1,none⟩ hD).setCell ⟨W.heap.size,2,none⟩ kI):=by
    have jm:Kept W w':=Kept.trans (Kept.drew (Kept.alloc (aG _) _)) iz;refine Kept.setCell (Kept.setCell (Kept.setCell jm ?_ _) ?_ _) ?_ _<;>exact bB _
   replace cP:aB _ W 34 #[k,hD,kI]:=cP;clear iz oR cd jL mA uW;rename_i hHeld;clear hHeld;generalize ((w'.setCell ⟨W.heap.size,0,none⟩ k).setCell ⟨W.heap.size,1,none⟩ hD).setCell ⟨W.heap.size,2,none⟩ kI=ha at fT cP⊢;generalize W.heap.size=g3 at cP⊢
  |have cP:=aB.new w' 34 #[k,hD,kI]
   have fT:Kept W (w'.alloc (.cells #[k,hD,kI] 34)):=Kept.alloc (Kept.trans (Kept.drew (aG _)) iz) _;clear iz oR;rename_i hHeld;clear hHeld;generalize w'.alloc (.cells #[k,hD,kI] 34)=ha at fT cP⊢;generalize w'.heap.size=g3 at cP⊢
  clear ni Yd;have ca:=aV.trans fT;have jF:=bo.kept fT;have gN:=bh.kept fT;have df:=bm.kept fT;have Fa:=jE.kept fT;clear jE bo bh bm eF;obtain⟨yK,yM,yL⟩:=df.q;obtain⟨P4,P5⟩:=gN.p;obtain⟨Is,It,Ae⟩:=cP.q;replace aE:=aE.out;by_cases aq:rc=0
  case neg=>
   have jv:(rc !=0)=true:=by simpa using aq
   rw[aP aq]at aE;obtain⟨rfl,rfl,rfl,rfl⟩:=j2 aE;clear aE aq;go_wp2_with fail
   have Z:=(((df.ba 0 ()).ba 1 ()).ba 2 ()).cell;exact bI (v:=bj #[aF #[(),(),()],ah (sc)]) (by simp[results,results133,go_sem,Z]) rfl ⟨rfl,ca.sc (by omega)|>.sc (by omega)|>.sc (by omega)⟩
  subst aq;rw[aw (by simp)]at aE;by_cases ab:kI=1
  case pos=>
   have af:(kI==1)=true:=by simpa using ab
   rw[aP ab]at aE;obtain⟨rfl,rfl,rfl,rfl⟩:=j2 aE;clear aE ab;go_upto_region 7 with fail
   have bo:=jF;have bm:=df;have jE:=Fa;clear jF gN df Fa yK yL yM P4 P5 Is It Ae;have z0:=aS.cell bo.lt (bo.cell 0);have fL:=aS.cell bo.lt (bo.cell 1);have z2:=aS.cell bo.lt (bo.cell 2);have z3:=aS.cell bo.lt (bo.cell 3);have z4:=aS.cell bo.lt (bo.cell 4);have z5:=aS.cell bo.lt (bo.cell 5);have EZ:=aS.cell bo.lt (bo.cell 6);have J8:=aS.cell bo.lt (bo.cell 7);have eU:=aS.cell (w:=ha) (b:=g) (o:=0) (v:=ah cR) jE.lt (by rw[jE.cell];rfl);have dr:=aS.cell (w:=ha) (b:=g) (o:=1) (v:=ah bq) jE.lt (by rw[jE.cell];rfl);have eV:=aS.cell (w:=ha) (b:=g) (o:=2) (v:=ah b5) jE.lt (by rw[jE.cell];rfl);have ni:=jE.lt;refine wH 7 (by kernel_rfl) (by kernel_rfl) ?_;simp only[sz,q0,vE,rS]
   repeat (go_big_quiet_step ((go_at_call 95;exact aS.call (zR _ (ca.trans (aS.h _))))))
   refine f' ?_;rintro eK⟨⟨cj,zd⟩,aT⟩;obtain rfl:eK=cj:=aT;have df:=bm.kept zd;have eB:=ca.trans zd;obtain⟨yK,yM,yL⟩:=df.q;clear z0 fL z2 z3 z4 z5 EZ J8 eU dr eV ni;go_wp2_with fail
   have Z:=(((df.ba 0 (ah (cS))).ba 1 (ah (eo))).ba 2 (ah (di))).cell;exact bI (v:=bj #[aF #[ah (cS),ah (eo),ah (di)],ah (sc)]) (by simp[results,results133,go_sem,Z]) rfl ⟨rfl,eB.sc (by omega)|>.sc (by omega)|>.sc (by omega)⟩
  case neg=>
   have af:(kI==1)=false:=by simpa using ab
   rw[aw ab]at aE;obtain⟨rfl,rfl,rfl,rfl⟩:=j2 aE;clear aE ab;go_upto_region 9 with fail
   have bo:=jF;have bm:=df;have jE:=Fa;clear jF gN df Fa yK yL yM P4 P5 Is It Ae;have z0:=aS.cell bo.lt (bo.cell 0);have fL:=aS.cell bo.lt (bo.cell 1);have z2:=aS.cell bo.lt (bo.cell 2);have z3:=aS.cell bo.lt (bo.cell 3);have z4:=aS.cell bo.lt (bo.cell 4);have z5:=aS.cell bo.lt (bo.cell 5);have EZ:=aS.cell bo.lt (bo.cell 6);have J8:=aS.cell bo.lt (bo.cell 7);have eU:=aS.cell (w:=ha) (b:=g) (o:=0) (v:=ah cR) jE.lt (by rw[jE.cell];rfl);have dr:=aS.cell (w:=ha) (b:=g) (o:=1) (v:=ah bq) jE.lt (by rw[jE.cell];rfl);have eV:=aS.cell (w:=ha) (b:=g) (o:=2) (v:=ah b5) jE.lt (by rw[jE.cell];rfl);have ni:=jE.lt;refine wH 7 (by kernel_rfl) (by kernel_rfl) ?_;simp only[sz,q0,vE,rS]
   repeat (go_big_quiet_step ((go_at_call 95;exact aS.call (oF _ (ca.trans (aS.h _))))))
   refine f' ?_;rintro eK⟨⟨cj,zd⟩,aT⟩;obtain rfl:eK=cj:=aT;have df:=bm.kept zd;have eB:=ca.trans zd;obtain⟨yK,yM,yL⟩:=df.q;clear z0 fL z2 z3 z4 z5 EZ J8 eU dr eV ni;go_wp2_with fail
   have Z:=(((df.ba 0 (ah (cS))).ba 1 (ah (eo))).ba 2 (ah (di))).cell;exact bI (v:=bj #[aF #[ah (cS),ah (eo),ah (di)],ah (sc)]) (by simp[results,results133,go_sem,Z]) rfl ⟨rfl,eB.sc (by omega)|>.sc (by omega)|>.sc (by omega)⟩
def al7(v:ak)(e:List cw)(E:dT)(F cR bq g:aa)(o:J)(w:ag)(Mk:z8 e E cR)(Mm:cR<F)(mO:z8 e E bq)(tS:bq<F)(c6:wQ w v e (c' e).1 E)(bN:Mon w)(bc:aB w g 3 (sl [(cR:J),(bq:J)]))(aA:o=23\/o=24):
  bg 133 #[v,aF #[o,()],ae (some (g,0)) 2 2] w (hA (CH ⟨o,0⟩ (λj=>hQ cz E e (c' e).1 F ([(cR:J),(bq:J)][j]?.getD 0))) w):=by
 have zM:=I (λw1(h:Kept w w1)=>Vd v e E cR F w1 Mk Mm (c6.kept h) (bN.kept h));have zR:=I (λw1(h:Kept w w1)=>Vd v e E bq F w1 mO tS (c6.kept h) (bN.kept h));obtain⟨p9,cH,dm,aY,dx,a',dq,bu,fr,b4,e6,b_,rfl,cd,bH,-⟩:=c6;obtain⟨A,cap,rfl,-⟩:=cd.at_;obtain⟨uH,oz,rfl,-⟩:=GW bH;generalize e.length=e9 at*;generalize (c' e).1.length=eC at*;obtain⟨R,aJ⟩:∃R,R=CH ⟨o,0⟩ (λj=>hQ cz E e (c' e).1 F ([(cR:J),(bq:J)][j]?.getD 0)):=⟨_,rfl⟩;rw[<-aJ];replace aJ:R=if (pV (hQ cz E e (c' e).1 F cR)).2≠0 then (v0,(pV (hQ cz E e (c' e).1 F cR)).2)
  else if (o=23)=((pV (hQ cz E e (c' e).1 F cR)).1.n=0)then ((pV (hQ cz E e (c' e).1 F cR)).1,0)else pV (hQ cz E e (c' e).1 F bq):=by
  subst aJ;unfold CH;have Wa:(o=26)=False:=by simp;omega
  simp only[Wa,sx];rfl
 generalize xA:pV (hQ cz E e (c' e).1 F cR)=oy at*;clear xA;obtain⟨⟨k,hD,kI⟩,rc⟩:=oy;obtain⟨⟨cS,eo,di⟩,sc⟩:=R;unfold hA at*;clear cd bH bN Mk Mm mO tS;generalize pV (hQ cz E e (c' e).1 F bq)=hh at*;obtain⟨⟨au,aQ,m1⟩,rc1⟩:=hh;have Cp:(o==26)=false:=by simp;omega
 have aE:=I aJ;clear aJ;go_enter func133,ntmps133
 go_upto_region 3 with fail
 generalize aL:((w.alloc _).alloc _).alloc _=W at*;obtain⟨aV,bo,bh,bm⟩:=Kept.cv aL;clear aL;have jE:=bc.kept aV;have eF:=I (show∀X,Kept W X->Kept W X/\aU X (w,0)=some (ae A e9 cap)/\aU X (w,1)=some (ae uH eC oz)/\aU X (w,2)=some (ah E.dt)/\aU X (w,3)=some (ae dm E.ins aY)/\aU X (w,4)=some (ae dx E.ds a')/\aU X (w,5)=some (ae dq E.ms bu)/\aU X (w,6)=some (ae fr E.mt b4)/\aU X (w,7)=some (ae e6 E.tb b_)/\aU X (g,0)=some (ah cR)from λX h=>⟨h,h.aI bo.lt (bo.cell 0),h.aI bo.lt (bo.cell 1),h.aI bo.lt (bo.cell 2),h.aI bo.lt (bo.cell 3),h.aI bo.lt (bo.cell 4),h.aI bo.lt (bo.cell 5),h.aI bo.lt (bo.cell 6),h.aI bo.lt (bo.cell 7),h.aI jE.lt (by rw[jE.cell];rfl)⟩);have ni:=jE.lt;have Yd:=bo.lt;go_region_held3 (λX=>Kept W X/\aU X (w,0)=some (ae A e9 cap)/\aU X (w,1)=some (ae uH eC oz)/\aU X (w,2)=some (ah E.dt)/\aU X (w,3)=some (ae dm E.ins aY)/\aU X (w,4)=some (ae dx E.ds a')/\aU X (w,5)=some (ae dq E.ms bu)/\aU X (w,6)=some (ae fr E.mt b4)/\aU X (w,7)=some (ae e6 E.tb b_)/\aU X (g,0)=some (ah cR))
  ((refine eF _ ?_;(with_reducible repeat (first|exact .refl _|assumption|refine .drew ?_|refine .alloc ?_ _|refine .setCell ?_ (by simp only;omega) _|refine .trans ?_ ‹Kept _ _›))))
  ((go_at_call 153;refine (zM _ (aV.trans ?_)).mono ?_;(·(with_reducible first|exact (aG _).drew|exact (aG _).aZ.drew));rintro e w'⟨rfl,iz⟩;(try (have cd:=aB.kept (aB.drew (aB.new W 34 #[(),(),()])) iz;have jL:=cd.cell;have mA:=cd.frozen;have uW:=cd.lt));have oR:=Below.size iz;(try simp at oR)))
 all_goals
  first
  |have cP:=((cd.ba 0 k).ba 1 hD).ba 2 kI
   have fT:Kept W (((w'.setCell ⟨W.heap.size,0,none⟩ k).setCell ⟨W.heap.size,1,none⟩ hD).setCell ⟨W.heap.size,2,none⟩ kI):=by
    have jm:Kept W w':=Kept.trans (Kept.drew (Kept.alloc (aG _) _)) iz;refine Kept.setCell (Kept.setCell (Kept.setCell jm ?_ _) ?_ _) ?_ _<;>exact bB _
   replace cP:aB _ W 34 #[k,hD,kI]:=cP;clear iz oR cd jL mA uW;rename_i hHeld;clear hHeld;generalize ((w'.setCell ⟨W.heap.size,0,none⟩ k).setCell ⟨W.heap.size,1,none⟩ hD).setCell ⟨W.heap.size,2,none⟩ kI=ha at fT cP⊢;generalize W.heap.size=g3 at cP⊢
  |have cP:=aB.new w' 34 #[k,hD,kI]
   have fT:Kept W (w'.alloc (.cells #[k,hD,kI] 34)):=Kept.alloc (Kept.trans (Kept.drew (aG _)) iz) _;clear iz oR;rename_i hHeld;clear hHeld;generalize w'.alloc (.cells #[k,hD,kI] 34)=ha at fT cP⊢;generalize w'.heap.size=g3 at cP⊢
  clear ni Yd;have ca:=aV.trans fT;have jF:=bo.kept fT;have gN:=bh.kept fT;have df:=bm.kept fT;have Fa:=jE.kept fT;clear jE bo bh bm eF;obtain⟨yK,yM,yL⟩:=df.q;obtain⟨P4,P5⟩:=gN.p;obtain⟨Is,It,Ae⟩:=cP.q;replace aE:=aE.out;by_cases aq:rc=0
  case neg=>
   have jv:(rc !=0)=true:=by simpa using aq
   rw[aP aq]at aE;obtain⟨rfl,rfl,rfl,rfl⟩:=j2 aE;clear aE aq;go_wp2_with fail
   have Z:=(((df.ba 0 ()).ba 1 ()).ba 2 ()).cell;exact bI (v:=bj #[aF #[(),(),()],ah (sc)]) (by simp[results,results133,go_sem,Z]) rfl ⟨rfl,ca.sc (by omega)|>.sc (by omega)|>.sc (by omega)⟩
  subst aq;rw[aw (by simp)]at aE
  cases az:((o==23)==(kI==0))
  case true=>
   rw[aP (by rw[beq_iff_eq]at az;by_cases ab:o=23<;>by_cases ad:kI=0<;>simp[ab,ad]at az⊢)]at aE;obtain⟨rfl,rfl,rfl,rfl⟩:=j2 aE;clear aE;go_wp2_with fail
   have Z:=(((df.ba 0 (ah (cS))).ba 1 (ah (eo))).ba 2 (ah (di))).cell;exact bI (v:=bj #[aF #[ah (cS),ah (eo),ah (di)],()]) (by simp[results,results133,go_sem,Z]) rfl ⟨rfl,ca.sc (by omega)|>.sc (by omega)|>.sc (by omega)⟩
  case false=>
   rw[aw (by cases fU:(o==23)<;>cases hd:(kI==0)<;>simp_all)]at aE;obtain⟨rfl,rfl,rfl,rfl⟩:=j2 aE;clear aE;go_upto_region 12 with fail
   have bo:=jF;have bm:=df;have jE:=Fa;clear jF gN df Fa yK yL yM P4 P5 Is It Ae;have z0:=aS.cell bo.lt (bo.cell 0);have fL:=aS.cell bo.lt (bo.cell 1);have z2:=aS.cell bo.lt (bo.cell 2);have z3:=aS.cell bo.lt (bo.cell 3);have z4:=aS.cell bo.lt (bo.cell 4);have z5:=aS.cell bo.lt (bo.cell 5);have EZ:=aS.cell bo.lt (bo.cell 6);have J8:=aS.cell bo.lt (bo.cell 7);have eU:=aS.cell (w:=ha) (b:=g) (o:=0) (v:=ah cR) jE.lt (by rw[jE.cell];rfl);have dr:=aS.cell (w:=ha) (b:=g) (o:=1) (v:=ah bq) jE.lt (by rw[jE.cell];rfl);have ni:=jE.lt;refine wH 7 (by kernel_rfl) (by kernel_rfl) ?_;simp only[sz,q0,vE,rS]
   repeat (go_big_quiet_step ((go_at_call 153;exact aS.call (zR _ (ca.trans (aS.h _))))))
   refine f' ?_;rintro eK⟨⟨cj,zd⟩,aT⟩;obtain rfl:eK=cj:=aT;have df:=bm.kept zd;have eB:=ca.trans zd;obtain⟨yK,yM,yL⟩:=df.q;clear z0 fL z2 z3 z4 z5 EZ J8 eU dr ni;go_wp2_with fail
   have Z:=(((df.ba 0 (ah (cS))).ba 1 (ah (eo))).ba 2 (ah (di))).cell;exact bI (v:=bj #[aF #[ah (cS),ah (eo),ah (di)],ah (sc)]) (by simp[results,results133,go_sem,Z]) rfl ⟨rfl,eB.sc (by omega)|>.sc (by omega)|>.sc (by omega)⟩
def al8(v:ak)(cm:ak)(o n:J)(R:bC×J)(w:ag)(aH:n≠0)(aJ:R=(v0,2))(A:gu)(e9 cap:aa)(uH:gu)(eC oz:aa)(E:dT)(dm dx dq fr e6:gu)(aY a' bu b4 b_:aa)(aK:v=aF #[ae A e9 cap,ae uH eC oz,E.dt,ae dm E.ins aY,ae dx E.ds a',ae dq E.ms bu,ae fr E.mt b4,ae e6 E.tb b_]):bg 133 #[v,aF #[o,n],cm] w (hA R w):=by
 subst aK;obtain⟨⟨cS,eo,di⟩,rc⟩:=R;obtain⟨rfl,rfl,rfl,rfl⟩:=j2 aJ;unfold hA;have af:(n !=0)=true:=by simpa using aH
 clear aJ aH;go_enter func133,ntmps133
 go_wp2_with fail
 exact bI (v:=bj #[aF #[(),(),()],ah 2]) (by simp[results,results133,go_sem, *]) rfl ⟨rfl,(aG _).aZ.aZ.aZ⟩
end Go.Proofs.YtilhklpfkgbikaaGreatDoor
