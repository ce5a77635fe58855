import Derived.Test.YtobpgndkciofhaaGreatDoorAC
set_option linter.all false
namespace Go.Proofs.YtobpgndkciofhaaGreatDoor
open Go.RowKit Go.Proofs.Tryz
open Go.Lib (hid)
set_option maxRecDepth 100000
set_option maxHeartbeats 8000000
theorem ahM {w:World} {B n ft:Nat} {qo:Option Addr} {l:List Int} (h:cn w B (.slice qo n ft) l) {i:Nat} {d:Int} (av:l[i]?=some d):∃g,qo=some ⟨g,0,none⟩∧g<w.heap.size∧w.cell? ⟨g,i,none⟩=some (.int .i64 d):=by
 obtain⟨A,cap,he,U⟩:=h.row;simp only[Value.slice.injEq]at he;obtain⟨rfl,-,rfl⟩:=he;obtain⟨g,ae,-,aJ,bp⟩:=U (by have:=(b8 av).1;omega);exact⟨g,ae,aJ,bp _ _ av⟩
theorem Ky {w Fu:World} {P c7:Nat} {dt:Int} {bo bW b4 bv:Value} {R:List bg×Int} {ds:List bg} {c:Int} (a b k:Int) (h:(ds,c)=R) (aj:c≠0) (U:Two w Fu none P):Kx P dt bo bW b4 bv R c7 w (.returned (.tuple #[aR,.agg #[c,a,b,k]])) Fu:=by
 subst h;exact⟨_,a,b,k,rfl,U,fun h=>absurd h aj⟩
theorem akn {w:World} {D:Nat} {t:TypeId} {ds:List bg} (h:ao w D t (sd ds)) {d:Nat} (av:d<ds.length):∃a b c:Int,w.cell? ⟨D,d*3,none⟩=some (.int .i64 a)∧w.cell? ⟨D,d*3+1,none⟩=some (.int .i64 b)∧w.cell? ⟨D,d*3+2,none⟩=some (.int .i64 c):=by
 obtain⟨A,cap,he,U⟩:=(MC h).at_;obtain⟨b,off,aZ,-,ae⟩:=U (by omega);simp only[Value.slice.injEq]at he;obtain⟨rfl,-,-⟩:=he
 cases aZ;have:=ae d _ (a8 av);simp only[Nat.zero_add]at this;exact⟨_,_,_,this⟩
theorem aen {w wr:World} {P S hB D jY B:Nat} {dt:Int} {bo bW b4 bv:Value} {sc:Array Value} {uC:Value} {o:List Int} {c7:Nat} {ds:List bg} {dF:List Int} (h:tH w wr P S hB D jY B dt bo bW b4 bv sc uC o c7 ds dF):
  Kx P dt bo bW b4 bv (ds,0) c7 w (.returned (.tuple #[.slice (some ⟨jY,0,none⟩) c7 c7,.agg #[(),(),(),()]])) ((((wr.setCell ⟨hB,0,none⟩ ()).setCell ⟨hB,1,none⟩ ()).setCell ⟨hB,2,none⟩ ()).setCell ⟨hB,3,none⟩ ()):=by
 have KN:P≠hB:=by have:=h.dJ;have:=h.aX;omega
 have av:=((((h.wP.far (p:=⟨hB,0,none⟩) h.wR.symm ()).far (p:=⟨hB,1,none⟩) h.wR.symm ()).far (p:=⟨hB,2,none⟩) h.wR.symm ()).far (p:=⟨hB,3,none⟩) h.wR.symm ());have aH:=((((h.fz.far (p:=⟨hB,0,none⟩) h.qA.symm ()).far (p:=⟨hB,1,none⟩) h.qA.symm ()).far (p:=⟨hB,2,none⟩) h.qA.symm ()).far (p:=⟨hB,3,none⟩) h.qA.symm ());have hp:=((((h.gG.far (p:=⟨hB,0,none⟩) KN ()).far (p:=⟨hB,1,none⟩) KN ()).far (p:=⟨hB,2,none⟩) KN ()).far (p:=⟨hB,3,none⟩) KN ());have ay:=MC av;have aE:=QM aH;rw[h.dl]at ay;rw[h.Fb]at aE;exact⟨_,0,0,0,rfl,(((h.two.lV h.aX 0 _).lV h.aX 1 _).lV h.aX 2 _).lV h.aX 3 _,fun _=>⟨_,dF,hp,ay,aE,h.Fb,fun b J=>by cases J;exact⟨h.b',av.lt⟩,fun b J=>by cases J;exact h.aw⟩⟩
theorem Vy (b2 bo bW b4 bv dv0 ZF:Value) (x:bP) (E:dC) (nb:List Bool) (P:Nat) (cI:Int) (w:World)
  (dJ:ao w P 98 #[E.dt,bo,dv0,bW,b4,bv])
  (hF:StP w P (fun w'=>iH w' b2 x∧ff w' bo E.ins∧ld w' bW E.ms∧kb w' b4 E.mt∧cH 6 kU w' bv E.tb∧AV w' ZF nb∧Mon w'))
  (aw:pB x.rs) (aA:x.ds.length≤1000) (o1:nb.length=x.ds.length) (mC:∀d:Int,¬nN (gg x.ds.length x.rs) d d):
  Calls prog 37 #[b2,.pointer (some ⟨P,0,none⟩),cI,ZF] w (Kx P E.dt bo bW b4 bv (iL ca E x.rs nb (o' (gg x.ds.length x.rs)) (List.replicate x.ds.length v0)) x.ds.length w):=by
 obtain⟨i0,aE,fy,cb,eu⟩:=info_parts Tryz.YU;obtain⟨ij,hS,hT,hU,hV⟩:=info_parts Tryz.rX;have aV:=hid hF;obtain⟨bj,bC,Wt,WE,WD,rF,-⟩:=hF w (Two.refl _ _ _);have Jn:=hid (fun (w1:World) (h:Two w w1 none P)=>ahD b2 x w1 (hF w1 h).1 aw aA mC);have TQ:=hid (fun (w1:World) (c_:Value) (gL:dC) (d:Int) (h:Two w w1 none P) (aX:hl w1 c_ gL)=>aiR b2 c_ x gL cI d w1 (hF w1 h).1 aX (hF w1 h).2.2.2.2.2.2 aw);have abF:=hid (fun (w1:World) (ny c_:Value) (e:List cz) (gL:dC) (h:Two w w1 none P) (bM:kt w1 ny e) (aX:hl w1 c_ gL)=>Vz ny c_ e gL w1 bM aX (hF w1 h).2.2.2.2.2.2);obtain⟨QT,OW,RW,rfl,hIw,hDw,nn⟩:=bj;obtain⟨gN,gS,rfl,-⟩:=hIw;obtain⟨fo,fS,rfl,-⟩:=hDw;obtain⟨eC,rc,rfl,-,-,-⟩:=nn;obtain⟨cl,aC,rfl,-⟩:=bC.at_;obtain⟨cX,a1,rfl,-⟩:=Wt.at_;obtain⟨ef,bN,rfl,-⟩:=WE.at_;obtain⟨dk,bJ,rfl,-⟩:=WD;obtain⟨aof,gF,rfl,-⟩:=rF.at_;obtain⟨oS,KL⟩:∃oS,o' (gg x.ds.length x.rs)=oS:=⟨_,rfl⟩;rw[KL]at Jn⊢;have TJ:=hid (show gU x.ds.length oS by rw[←KL];exact (Ry (BH _ _) (fun l h=>zP h) mC).2.1);have Jm:=hid (show oS.length=x.ds.length by rw[←KL];exact Z0 (BH _ _) (fun l h=>zP h) mC);obtain⟨u_,BV⟩:∃u_,iL ca E x.rs nb oS (List.replicate x.ds.length v0)=u_:=⟨_,rfl⟩;rw[BV];have FY:=hid (show iL ca E x.rs nb (oS.drop 0) (List.replicate x.ds.length v0)=u_ from BV);have hPl:=dJ.lt;generalize x.ag=ag at*;generalize x.ms=ms at*;generalize x.ins.length=s3 at*;obtain⟨c7,kE⟩:∃c7,x.ds.length=c7:=⟨_,rfl⟩;rw[kE]at aA o1 TJ Jm FY TQ Jn aV⊢;have iE:=hid kE;have oa:=hid (show x.rs.length=x.rs.length from rfl);generalize lo:x.rs.length=n at*;have bk:=hid lo;have iD:=hid o1;rw[o1]at aV⊢;have oz:(c7:Int)≤1000:=by omega
 clear bC Wt WE rF KL BV hF aw mC kE lo oa;go_enter func37,ntmps37
 go_upto_region 1 with fail
 generalize ar:(w.alloc _).alloc _=W at*;obtain⟨aF,a_,aS⟩:=Kept.a6 ar;clear ar;have dL:=a_.cell 3;have cA:=a_.lt;have uY:=dJ.kept aF;simp only[List.getElem?_toArray,List.getElem?_cons_zero,List.getElem?_cons_succ]at dL;have zV:w.heap.size+1<W.heap.size:=aS.lt;go_upto_region 2 with (at_make;refine wpList_make_full _ rfl _ _ 31 rfl W.heap.size 44 i0 (.agg #[(),(),()]) 3 underlying31 aE fy cb _ _ _ _ c7 rfl rfl rfl rfl (by rw[eu];omega) (by unfold maxLen;omega) (Nat.le_refl _) ?_;intro w1 cR cd;have cp:=hid (Zk cR cd);clear cR cd;have Gg:=uY.kept cp.out.2;have anZ:=Gg.cell;have pqf:=Gg.frozen;have pql:=Gg.lt)
 have DA:=Gg.aP 2 (.slice (some ⟨W.heap.size,0,none⟩) c7 c7);have hPW:P≠W.heap.size:=by have:=aF.size;omega
 have hSW:=aF.size;have H0:=cp.out.2;have aaY:=H0.size;have lZ:=cp.out.1.far (p:=⟨P,2,none⟩) hPW.symm (.slice (some ⟨W.heap.size,0,none⟩) c7 c7);have xV:=(a_.kept H0).far (p:=⟨P,2,none⟩) (show w.heap.size≠P by omega) (.slice (some ⟨W.heap.size,0,none⟩) c7 c7);have JR:=(aS.kept H0).far (p:=⟨P,2,none⟩) (show w.heap.size+1≠P by omega) (.slice (some ⟨W.heap.size,0,none⟩) c7 c7);have Gn:Two w (w1.setCell ⟨P,2,none⟩ (.slice (some ⟨W.heap.size,0,none⟩) c7 c7)) none P:=(Two.iZ (aF.trans H0)).aP 2 _;have X7:w1.heap.size=(w1.setCell ⟨P,2,none⟩ (.slice (some ⟨W.heap.size,0,none⟩) c7 c7)).heap.size:=by simp
 have np:=cp.out.1.lt;rw[X7]at aaY np;clear cp Gg anZ pqf pql dL a_ aS uY H0 dJ aF;generalize w1.setCell ⟨P,2,none⟩ (.slice (some ⟨W.heap.size,0,none⟩) c7 c7)=e8 at*;generalize W.heap.size=D at*;replace DA:ao e8 P 98 #[E.dt,.slice cl E.ins.length aC,.slice (some ⟨D,0,none⟩) c7 c7,.slice cX E.ms.length a1,.slice ef E.mt.length bN,.slice dk E.tb.length bJ]:=DA;clear X7;have jw:=xV.cell 3;have R4:=xV.lt;simp only[List.getElem?_toArray,List.getElem?_cons_zero,List.getElem?_cons_succ]at jw;go_upto_region 3 with (at_make;refine wpList_make_full _ rfl _ _ 92 rfl e8.heap.size 3 ij () 1 underlying92 hS hT hU _ _ _ _ c7 rfl rfl rfl rfl (by rw[hV];omega) (by unfold maxLen;omega) (Nat.le_refl _) ?_;intro cw cR cd;have cp:=hid (Ly cR cd);clear cR cd)
 have EV:=cp.out.2;have DA:=DA.kept EV;have xV:=xV.kept EV;have JR:=JR.kept EV;have lZ:=lZ.kept EV;have iG:=cp.out.1;have szR:=iG.lt;have Gn:=Gn.trans (Two.iZ (a:=none) (r:=P) EV) (.inl rfl);have TL:=Jn.out cw Gn;clear Jn cp EV jw R4;generalize e8.heap.size=jY at*;obtain⟨jw,R4⟩:=xV.p;go_upto_region 4 with (go_at_call 55;refine TL.mono ?_;rintro e JQ ⟨u,rfl,aO,aN⟩;have bz:=hid (And.intro aO aN);clear aO aN)
 obtain⟨qo,ft,rfl⟩:=il bz.out.1;have au:=bz.out.1;rw[Jm.out]at au⊢;generalize cw.heap.size=B at*;have Jh:=hid (show tH w JQ P w.heap.size (w.heap.size+1) D jY B E.dt (.slice cl E.ins.length aC) (.slice cX E.ms.length a1) (.slice ef E.mt.length bN) (.slice dk E.tb.length bJ) #[ag,ms,.slice gN s3 gS,.slice fo c7 fS,.slice eC n rc] (.slice qo c7 ft) oS c7 (List.replicate c7 v0) (List.replicate c7 0) by
  have k:=bz.out.2;exact⟨Gn.trans (Two.iZ k) (.inl rfl),DA.kept k,xV.kept k,JR.kept k,lZ.kept k,iG.kept k,au,by simp,by simp,hPl,Nat.le_refl _,Nat.le_succ _,by omega,by omega,by omega,by omega,by omega,by omega,by omega,by omega,by omega⟩)
 clear bz au Gn DA xV JR lZ iG TL jw R4;go_upto_region 5 with fail
 go_loopw [37] (fun y wr=>∃(i:Nat) (ds:List bg) (dF:List Int),y= .int .i64 i∧i≤c7∧tH w wr P w.heap.size (w.heap.size+1) D jY B E.dt (.slice cl E.ins.length aC) (.slice cX E.ms.length a1) (.slice ef E.mt.length bN) (.slice dk E.tb.length bJ) #[ag,ms,.slice gN s3 gS,.slice fo c7 fS,.slice eC n rc] (.slice qo c7 ft) oS c7 ds dF∧iL ca E x.rs nb (oS.drop i) ds=u_) (fun y _=>c7-(intOf y).toNat)
 case atStart=>exact⟨0,_,_,rfl,Nat.zero_le _,Jh.out,FY.out⟩
 case round=>
  obtain⟨i,ds,dF,rfl,de,bL,aG⟩:=hrel;by_cases aD:i<c7
  ·have c6:(i:Int)<c7:=by omega
   have z':i<oS.length:=by have:=Jm.out;omega
   have ai:oS[i]?=some oS[i]:=a8 z';have B4:=TJ.out _ (List.mem_of_getElem? ai);rw[List.drop_eq_getElem_cons z']at aG;generalize oS[i]=Vl at*;obtain⟨d,rfl⟩:∃d:Nat,Vl=d:=⟨Vl.toNat,by omega⟩;have iV:d<c7:=by omega
   have ym:(d:Int)<c7:=B4.2;obtain⟨aoG,rfl,hog,Cf⟩:=ahM bL.mN ai;have mB:=aV.out wr bL.two;have XN:=mB.2.2.2.2.2.1.at_;rw[iD.out]at XN;obtain⟨nE,oq,XP,XO⟩:=XN;simp only[Value.slice.injEq]at XP;obtain⟨rfl,-,rfl⟩:=XP;obtain⟨ux,r7,rfl,qL,Ci⟩:=XO (by omega);have jJ:=Ci d (ml nb d) (by unfold ml;rw[Int.toNat_natCast,a8 (by have:=iD.out;omega),Option.getD_some]);have iF:=hid (fun h:ml nb d=false=>(aiH (Lf:=ca) (E:=E) (rs:=x.rs) (r:=oS.drop (i+1)) (ds:=ds) h).symm.trans aG);have A9:=hid (fun (c:Int) (I:ml nb d=true) (ah:(hH ca {E with ds:=ds} x.rs d).2.2.1=c) (aj:c≠0)=>(aiF (r:=oS.drop (i+1)) I ah aj).symm.trans aG);have abW:=hid (fun (I:ml nb d=true) (ah:(hH ca {E with ds:=ds} x.rs d).2.2.1=0)=>(aiG (r:=oS.drop (i+1)) I ah).symm.trans aG);have iQ:=hid bL;clear XO Ci aG ai;generalize Cl:ml nb d=q at*
   cases q
   ·clear mB bL;go_wp2_with fail
    go_roundw
    case rel=>exact⟨i+1,ds,dF,by go_num,aD,iQ.out,iF.out rfl⟩
    case measure=>simp[intOf]<;>omega
   ·have EO:=MC bL.wP;rw[bL.dl]at EO;have Hp:hl wr (.agg #[E.dt,.slice cl E.ins.length aC,.slice (some ⟨D,0,none⟩) c7 c7,.slice cX E.ms.length a1,.slice ef E.mt.length bN,.slice dk E.tb.length bJ]) {E with ds:=ds}:=⟨_,_,_,_,_,rfl,mB.2.1,EO,mB.2.2.1,mB.2.2.2.1,mB.2.2.2.2.1⟩;have abG:=hid Hp;have nK:=hid (fun w1 (aa:Kept wr w1)=>TQ.out w1 _ _ d (bL.two.trans (Two.iZ aa) (.inl rfl)) (Hp.kept aa));obtain⟨vZ,sc,R3,rS⟩:∃vZ sc R3,eL ca {E with ds:=ds} x.rs d=(vZ,sc,R3):=⟨_,_,_,rfl⟩;rw[rS]at nK;have tA:=hid rS;have pc:=bL.n7.lt;have Ff:=bL.n7.cell;have pl:=bL.gG.lt;have CJ:=bL.gG.cell;clear mB EO Hp rS bL iF;go_upto_region 8 with fail
    have ej:=hid (show∀X,Kept wr X→Kept wr X∧X.cell? ⟨w.heap.size,0,none⟩=some (.string ag)∧X.cell? ⟨w.heap.size,1,none⟩=some (.int .i64 ms)∧X.cell? ⟨w.heap.size,2,none⟩=some (.slice gN s3 gS)∧X.cell? ⟨w.heap.size,3,none⟩=some (.slice fo c7 fS)∧X.cell? ⟨w.heap.size,4,none⟩=some (.slice eC n rc)∧X.cell? ⟨P,0,none⟩=some (.int .i64 E.dt)∧X.cell? ⟨P,1,none⟩=some (.slice cl E.ins.length aC)∧X.cell? ⟨P,2,none⟩=some (.slice (some ⟨D,0,none⟩) c7 c7)∧X.cell? ⟨P,3,none⟩=some (.slice cX E.ms.length a1)∧X.cell? ⟨P,4,none⟩=some (.slice ef E.mt.length bN)∧X.cell? ⟨P,5,none⟩=some (.slice dk E.tb.length bJ)from fun X h=>⟨h,h.ad pc (Ff 0),h.ad pc (Ff 1),h.ad pc (Ff 2),h.ad pc (Ff 3),h.ad pc (Ff 4),h.ad pl (CJ 0),h.ad pl (CJ 1),h.ad pl (CJ 2),h.ad pl (CJ 3),h.ad pl (CJ 4),h.ad pl (CJ 5)⟩);clear Ff CJ jJ Cf;go_cut [15,16] (fun bA eK bt=>∃(g3:Nat) (a b c:Int),bA= .int .i64 vZ∧eK= .pointer (some ⟨g3,0,none⟩)∧ao bt g3 46 #[.int .i64 sc,a,b,c]∧Kept wr bt)
    case first=>
     go_region_held3 (fun X=>Kept wr X∧X.cell? ⟨w.heap.size,0,none⟩=some (.string ag)∧X.cell? ⟨w.heap.size,1,none⟩=some (.int .i64 ms)∧X.cell? ⟨w.heap.size,2,none⟩=some (.slice gN s3 gS)∧X.cell? ⟨w.heap.size,3,none⟩=some (.slice fo c7 fS)∧X.cell? ⟨w.heap.size,4,none⟩=some (.slice eC n rc)∧X.cell? ⟨P,0,none⟩=some (.int .i64 E.dt)∧X.cell? ⟨P,1,none⟩=some (.slice cl E.ins.length aC)∧X.cell? ⟨P,2,none⟩=some (.slice (some ⟨D,0,none⟩) c7 c7)∧X.cell? ⟨P,3,none⟩=some (.slice cX E.ms.length a1)∧X.cell? ⟨P,4,none⟩=some (.slice ef E.mt.length bN)∧X.cell? ⟨P,5,none⟩=some (.slice dk E.tb.length bJ))
      ((refine ej.out _ ?_;(with_reducible repeat (first|exact .refl _|assumption|refine .drew ?_|refine .alloc ?_ _|refine .setCell ?_ (by simp only;omega) _|refine .trans ?_ ‹Kept _ _›))))
      ((go_at_call 56;refine (nK.out _ ?_).mono ?_;(·(with_reducible repeat (first|exact .refl _|assumption|refine .drew ?_|refine .alloc ?_ _|refine .setCell ?_ (by simp only;omega) _|refine .trans ?_ ‹Kept _ _›)));rintro e w' ⟨wQ,gn,j5,rfl,gC⟩;(try (have bM:=ao.kept (ao.drew (ao.new wr 46 #[(),(),(),()])) gC;have j9:=bM.cell;have ke:=bM.frozen;have rN:=bM.lt));have mb:=Below.size gC;(try simp at mb)))
     ·go_wp2_with fail
      go_meet
      case rel=>exact⟨_,wQ,gn,j5,rfl,rfl,ao.new w' 46 _,Kept.alloc (Kept.trans (Kept.drew (aQ _)) gC) _⟩
     ·go_wp2_with fail
      go_meet
      case rel=>
       have iI:Kept wr w':=Kept.trans (Kept.drew (Kept.alloc (aQ _) _)) gC;refine⟨_,wQ,gn,j5,rfl,rfl,(((bM.aP 0 (.int .i64 sc)).aP 1 wQ).aP 2 gn).aP 3 (.int .i64 j5),?_⟩;refine Kept.setCell (Kept.setCell (Kept.setCell (Kept.setCell iI ?_ _) ?_ _) ?_ _) ?_ _<;>exact Nat.le_refl _
    case rest=>
     obtain⟨g3,a,b,c,rfl,rfl,N',P8⟩:=hcut;generalize wc=hN at*;have mu:=hid (iQ.out.keep P8);obtain⟨an7,MI⟩:=N'.p;have O1:=mu.out.gn.cell;have O2:=mu.out.gn.frozen;have O3:=mu.out.gn.lt;have ab3:=hid N';have Dj:=hid (fun (b5 aC aM a1:Value)=>((((mu.out.two.lV mu.out.aX 0 b5).lV mu.out.aX 1 aC).lV mu.out.aX 2 aM).lV mu.out.aX 3 a1));have Dq:=hid (fun (b5 aC aM a1:Value)=>((((mu.out.gn.aP 0 b5).aP 1 aC).aP 2 aM).aP 3 a1).cell);clear N' ej;by_cases ih:sc=0
     ·subst ih;have Bl:=aiQ (Lf:=ca) (E:={E with ds:=ds}) (rs:=x.rs) (d:=(d:Int)) (by rw[tA.out]);rw[tA.out]at Bl;simp only at Bl;rcases Bl with I|I|⟨k,I,j8⟩
      ·subst I;have mY:=hid (A9.out 10 rfl (aja (by rw[tA.out]) (by rw[tA.out])) (by omega));go_wp2_with fail
       have Z:=Dq.out (.int .i64 10) cI d (.int .i64 (-1));exact bodyPost_ret (v:= .tuple #[aR,.agg #[.int .i64 10,cI,d,.int .i64 (-1)]]) (by simp[results,results37,go_sem,Z]) rfl (Ky _ _ _ mY.out (by omega) (Dj.out (.int .i64 10) cI d (.int .i64 (-1))))
      ·subst I;have mY:=hid (A9.out 11 rfl (ajd (by rw[tA.out]) (by rw[tA.out])) (by omega));go_wp2_with fail
       have Z:=Dq.out (.int .i64 11) cI d (.int .i64 (-1));exact bodyPost_ret (v:= .tuple #[aR,.agg #[.int .i64 11,cI,d,.int .i64 (-1)]]) (by simp[results,results37,go_sem,Z]) rfl (Ky _ _ _ mY.out (by omega) (Dj.out (.int .i64 11) cI d (.int .i64 (-1))))
      ·subst I;rw[bk.out]at j8;have ae4:(k:Int)<n:=by omega
       have rK:((k:Int)== -1)=false:=by simp
       have iI:((k:Int)== -2)=false:=by simp
       have sl8:=mu.out.n7.lt;have aaw:=mu.out.n7.cell;have CL:=mu.out.gG.lt;have CK:=mu.out.gG.cell;have wW:=aV.out hN mu.out.two;obtain⟨iv8,dv8,rv8,Ye,-,-,afu⟩:=wW.1;simp only[Value.agg.injEq,Array.mk.injEq,List.cons.injEq,and_true]at Ye;obtain⟨-,-,-,-,rfl⟩:=Ye;obtain⟨N1,RM,vH,-,-,oA⟩:=afu;rw[bk.out]at vH oA;simp only[Value.slice.injEq]at vH;obtain⟨rfl,-,rfl⟩:=vH;obtain⟨fz,ro,rfl,dm,iW⟩:=oA (by omega);have ie:k<x.rs.length:=by have:=bk.out;omega
       have gr:x.rs[k]?=some x.rs[k]:=a8 ie;obtain⟨-,-,-,-,-,-,-,⟨nU,uM,h4⟩,-⟩:=iW _ _ gr;unfold ed at uM;have zo:=hid (aje (Lf:=ca) (E:={E with ds:=ds}) (rs:=x.rs) (d:=(d:Int)) (by rw[tA.out]) (by rw[tA.out]) gr);generalize x.rs[k]=r at*;obtain⟨j5,ow,bm,gZ,w4⟩:∃j5 ow bm gZ,iy ca {E with ds:=ds} r.v=(⟨j5,ow,bm⟩,gZ):=⟨_,_,_,_,rfl⟩;rw[w4]at zo;have sj:=hid (fun w1 (aa:Kept hN w1)=>(by
        have h:=abF.out w1 nU (.agg #[E.dt,.slice cl E.ins.length aC,.slice (some ⟨D,0,none⟩) c7 c7,.slice cX E.ms.length a1,.slice ef E.mt.length bN,.slice dk E.tb.length bJ]) r.v {E with ds:=ds} (mu.out.two.trans (Two.iZ aa) (.inl rfl)) (h4.kept aa) (abG.out.kept (P8.trans aa));rwa [w4]at h:Calls prog 57 #[nU,.agg #[E.dt,.slice cl E.ins.length aC,.slice (some ⟨D,0,none⟩) c7 c7,.slice cX E.ms.length a1,.slice ef E.mt.length bN,.slice dk E.tb.length bJ]] w1 (fN (⟨j5,ow,bm⟩,gZ) w1)))
       obtain⟨iS,gx,rfl,-⟩:=h4.1.at_;generalize r.v.length=fA at*;clear iW oA h4 wW gr w4;go_upto_region 16 with fail
       clear an7 MI ab3;have ej:=hid (show∀X,Kept hN X→Kept hN X∧X.cell? ⟨w.heap.size,4,none⟩=some (.slice (some ⟨fz,ro,none⟩) n rc)∧X.cell? ⟨P,0,none⟩=some (.int .i64 E.dt)∧X.cell? ⟨P,1,none⟩=some (.slice cl E.ins.length aC)∧X.cell? ⟨P,2,none⟩=some (.slice (some ⟨D,0,none⟩) c7 c7)∧X.cell? ⟨P,3,none⟩=some (.slice cX E.ms.length a1)∧X.cell? ⟨P,4,none⟩=some (.slice ef E.mt.length bN)∧X.cell? ⟨P,5,none⟩=some (.slice dk E.tb.length bJ)∧X.cell? ⟨fz,ro+k*9+7,none⟩=some (.slice iS fA gx)from fun X h=>(by have RL:=dm;exact⟨h,h.ad sl8 (aaw 4),h.ad CL (CK 0),h.ad CL (CK 1),h.ad CL (CK 2),h.ad CL (CK 3),h.ad CL (CK 4),h.ad CL (CK 5),h.ad RL uM⟩));clear aaw CK uM;go_cut [17,18] (fun eK sF bt=>∃(g4:Nat),eK= .pointer (some ⟨g4,0,none⟩)∧sF= .int .i64 gZ∧ao bt g4 44 #[.int .i64 j5,.int .i64 ow,.int .i64 bm]∧Kept hN bt)
       case first=>
        go_region_held3 (fun X=>Kept hN X∧X.cell? ⟨w.heap.size,4,none⟩=some (.slice (some ⟨fz,ro,none⟩) n rc)∧X.cell? ⟨P,0,none⟩=some (.int .i64 E.dt)∧X.cell? ⟨P,1,none⟩=some (.slice cl E.ins.length aC)∧X.cell? ⟨P,2,none⟩=some (.slice (some ⟨D,0,none⟩) c7 c7)∧X.cell? ⟨P,3,none⟩=some (.slice cX E.ms.length a1)∧X.cell? ⟨P,4,none⟩=some (.slice ef E.mt.length bN)∧X.cell? ⟨P,5,none⟩=some (.slice dk E.tb.length bJ)∧X.cell? ⟨fz,ro+k*9+7,none⟩=some (.slice iS fA gx))
         ((refine ej.out _ ?_;(with_reducible repeat (first|exact .refl _|assumption|refine .drew ?_|refine .alloc ?_ _|refine .setCell ?_ (by simp only;omega) _|refine .trans ?_ ‹Kept _ _›))))
         ((go_at_call 57;refine (sj.out _ ?_).mono ?_;(·(with_reducible repeat (first|exact .refl _|assumption|refine .drew ?_|refine .alloc ?_ _|refine .setCell ?_ (by simp only;omega) _|refine .trans ?_ ‹Kept _ _›)));rintro e w' ⟨rfl,gC⟩;(try (have bM:=ao.kept (ao.drew (ao.new hN 44 #[(),(),()])) gC;have j9:=bM.cell;have ke:=bM.frozen;have rN:=bM.lt));have mb:=Below.size gC;(try simp at mb)))
        ·go_wp2_with fail
         go_meet
         case rel=>exact⟨_,rfl,rfl,ao.new w' 44 _,Kept.alloc (Kept.trans (Kept.drew (aQ _)) gC) _⟩
        ·go_wp2_with fail
         go_meet
         case rel=>
          have iI:Kept hN w':=Kept.trans (Kept.drew (Kept.alloc (aQ _) _)) gC;refine⟨_,rfl,rfl,((bM.aP 0 (.int .i64 j5)).aP 1 (.int .i64 ow)).aP 2 (.int .i64 bm),?_⟩;refine Kept.setCell (Kept.setCell (Kept.setCell iI ?_ _) ?_ _) ?_ _<;>exact Nat.le_refl _
       case rest=>
        obtain⟨g4,rfl,rfl,JP,Xz⟩:=hcut;generalize wc=nd at*;have nI:=hid (mu.out.keep Xz);clear ej sj mu Dj Dq O1 O2 O3;obtain⟨vbc,vbl⟩:=JP.p;have Dm:=hid JP;clear JP;by_cases nq:gZ=0
        ·have mY:=hid (abW.out rfl (by rw[zo.out.1];exact nq));rw[zo.out.2 nq,Int.toNat_natCast]at mY;subst nq;have pl9:=nI.out.gG.lt;have pc9:=nI.out.gG.cell;have DY:=nI.out.wP.lt;have df9:=nI.out.wP.frozen;obtain⟨e3,ee,fW,DW,pM,jF⟩:=akn nI.out.wP (d:=d) (by rw[nI.out.dl];exact iV);go_wp2_with fail
         go_region
         have bp:=(nI.out.aiW iV ⟨j5,ow,bm⟩).keep (Kept.drew (aQ _));dsimp only at bp;generalize (((nd.setCell ⟨D,d*3,none⟩ (.int .i64 j5)).setCell ⟨D,d*3+1,none⟩ (.int .i64 ow)).setCell ⟨D,d*3+2,none⟩ (.int .i64 bm)).drew=W10 at bp⊢;have Ba:=hid bp;clear bp;have rc5:=Ba.out.fz.cell d;rw[xe (by rw[Ba.out.Fb];exact iV)]at rc5;have rl5:=Ba.out.fz.lt;have rf5:=Ba.out.fz.frozen d;have Ji:=hid (Ba.out.aiX d k);go_wp2_with fail
         go_roundw
         case rel=>first
          |exact⟨i+1,_,_,by go_num,aD,Ji.out,mY.out⟩
          |((repeat apply Exists.intro);exact⟨⟨i+1,_,_,by go_num,aD,Ji.out,mY.out⟩,rfl⟩)
         case measure=>simp[intOf]<;>omega
        ·have mY:=hid (A9.out gZ rfl (by rw[zo.out.1]) nq);have hh:(gZ !=0)=true:=by simpa using nq
         have O1:=nI.out.gn.cell;have O2:=nI.out.gn.frozen;have O3:=nI.out.gn.lt;have Dj:=hid (fun (b5 aC aM a1:Value)=>((((nI.out.two.lV nI.out.aX 0 b5).lV nI.out.aX 1 aC).lV nI.out.aX 2 aM).lV nI.out.aX 3 a1));have Dq:=hid (fun (b5 aC aM a1:Value)=>((((nI.out.gn.aP 0 b5).aP 1 aC).aP 2 aM).aP 3 a1).cell);clear vbc vbl P8 Xz j8 ae4 rK iI dm ie sl8 CL pc pl hog qL de aD c6 z' B4 iV ym np aaY szR nq Cl Dm nI;go_upto_region 18 with fail
         iterate 27 (first|go_step|go_upon)
         have Z:=Dq.out (.int .i64 gZ) cI d k;exact bodyPost_ret (v:= .tuple #[aR,.agg #[.int .i64 gZ,cI,d,k]]) (by simp[results,results37,go_sem,Z]) rfl (Ky _ _ _ mY.out (by simpa using hh) (Dj.out (.int .i64 gZ) cI d k))
     ·have hh:(sc !=0)=true:=by simpa using ih
      have mY:=hid (A9.out sc rfl (by rw[ajc (by rw[tA.out];exact ih),tA.out]) ih);go_wp2_with fail
      go_region
      go_wp2_with fail
      have Z:=Dq.out (.int .i64 sc) a b c;exact bodyPost_ret (v:= .tuple #[aR,.agg #[.int .i64 sc,a,b,c]]) (by simp[results,results37,go_sem,Z]) rfl (Ky _ _ _ mY.out ih ((Dj.out (.int .i64 sc) a b c).trans (Two.iZ (Kept.drew (aQ _))) (.inl rfl)))
  ·obtain rfl:i=c7:=by omega
   have c6:¬((i:Int)<i):=by omega
   rw[List.drop_eq_nil_of_le (by have:=Jm.out;omega),iL]at aG;subst aG;have O1:=bL.gn.cell;have O2:=bL.gn.frozen;have O3:=bL.gn.lt;have iQ:=hid bL;clear bL;go_wp2_with fail
   have Z:=((((iQ.out.gn.aP 0 ()).aP 1 ()).aP 2 ()).aP 3 ()).cell;refine bodyPost_ret (v:= .tuple #[.slice (some ⟨jY,0,none⟩) i i,.agg #[(),(),(),()]]) (by simp[results,results37,go_sem,Z]) rfl ?_;exact aen iQ.out
end Go.Proofs.YtobpgndkciofhaaGreatDoor
