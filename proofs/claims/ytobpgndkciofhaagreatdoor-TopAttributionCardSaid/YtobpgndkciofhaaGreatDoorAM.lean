import Derived.Test.YtobpgndkciofhaaGreatDoorAL
set_option linter.all false
namespace Go.Proofs.YtobpgndkciofhaaGreatDoor
open Go.RowKit Go.Proofs.Tryz
open Go.Lib (hid)
set_option maxRecDepth 100000
set_option maxHeartbeats 32000000
theorem zJ {W:World} {g T:Nat} {cs:Array Value} (h:g=W.heap.size):ao (W.alloc (.cells cs T)) g T cs:=h▸ao.new W T cs
theorem eh {X:World} {g T:Nat} {a b c:Value} (B:ao X g T #[a,b,c]) (x y z:Value):ao (((X.setCell ⟨g,0,none⟩ x).setCell ⟨g,1,none⟩ y).setCell ⟨g,2,none⟩ z) g T #[x,y,z]:=by
 have:=((B.aP 0 x).aP 1 y).aP 2 z;simpa using this
theorem dy {X:World} {g T:Nat} {a b c d:Value} (B:ao X g T #[a,b,c,d]) (x y z u:Value):ao ((((X.setCell ⟨g,0,none⟩ x).setCell ⟨g,1,none⟩ y).setCell ⟨g,2,none⟩ z).setCell ⟨g,3,none⟩ u) g T #[x,y,z,u]:=by
 have:=(((B.aP 0 x).aP 1 y).aP 2 z).aP 3 u;simpa using this
theorem wL {X:World} {g h T:Nat} {cs:Array Value} (B:ao X h T cs) (bQ:h≠g) (x y z:Value):ao (((X.setCell ⟨g,0,none⟩ x).setCell ⟨g,1,none⟩ y).setCell ⟨g,2,none⟩ z) h T cs:=
 ((B.far (p:=⟨g,0,none⟩) bQ x).far (p:=⟨g,1,none⟩) bQ y).far (p:=⟨g,2,none⟩) bQ z
theorem JZ {X:World} {g h T:Nat} {cs:Array Value} (B:ao X h T cs) (bQ:h≠g) (x y z u:Value):ao ((((X.setCell ⟨g,0,none⟩ x).setCell ⟨g,1,none⟩ y).setCell ⟨g,2,none⟩ z).setCell ⟨g,3,none⟩ u) h T cs:=
 (wL B bQ x y z).far (p:=⟨g,3,none⟩) bQ u
theorem age (e_ fm bT:Value) (A B:cZ) (cs:List h9) (d:Int) (w:World) (aZ:gy w e_ A) (J:gy w fm B) (aq:cH 3 xB w bT cs) (G9:Mon w):Calls prog 3 #[e_,fm,bT,d] w (Jz w):=by
 unfold Jz;have cD:=hid (fun w1 (h:Kept w w1)=>aiZ w1 (G9.kept h));have Df:=hid (fun w1 (h:Kept w w1)=>aaF e_ A w1 (aZ.kept h));have fM:=hid (fun w1 (h:Kept w w1)=>aaF fm B w1 (J.kept h));unfold DF at Df fM;have oa:=hid (fun (sc:Int) w1 (h:Kept w w1) (ah:cs.length≤1000) (I:lv A.sc≤60) (U:lv B.sc≤60)=>aat e_ fm bT A B sc d cs w1 (aZ.kept h) (J.kept h) (aq.kept xB.kept h) ah (G9.kept h) I U);unfold aas uB at oa;have xE:=hid (fun w1 (h:Kept w w1) (I:lv A.sc≤60) (U:lv B.sc≤60)=>U6 e_ fm A B w1 (aZ.kept h) (J.kept h) I U);unfold Kg at xE;have xF:=hid (fun (bo bW:Value) (sc:Int) (c:h9) w1 (h:Kept w w1) (bC:ff w bo c.ins) (br:ld w bW c.mem) (fP:c.ins.length≤9223372036854775807)=>O4 e_ bo bW A sc d c w1 (aZ.kept h) (bC.kept h) (br.kept h) fP (G9.kept h));have xG:=hid (fun (bo bW:Value) (sc:Int) (c:h9) w1 (h:Kept w w1) (bC:ff w bo c.ins) (br:ld w bW c.mem) (fP:c.ins.length≤9223372036854775807)=>O4 fm bo bW B sc d c w1 (J.kept h) (bC.kept h) (br.kept h) fP (G9.kept h));unfold zQ at xF xG;obtain⟨c_,b4,b2,rfl,aj,I,U⟩:=aZ;obtain⟨pf,pF,rfl,-⟩:=aj;obtain⟨pj,pJ,rfl,-⟩:=I;obtain⟨sf,pH,rfl,-,XE,-⟩:=U;obtain⟨c_,b4,b2,rfl,aj,I,U⟩:=J;obtain⟨pg,pG,rfl,-⟩:=aj;obtain⟨pk,pK,rfl,-⟩:=I;obtain⟨ph,pI,rfl,-⟩:=U;obtain⟨AC,anH,rfl,-,hlC,af⟩:=aq;have bn:=hid af;generalize A.bm.length=p2 at*;generalize A.tb.length=p4 at*;generalize A.sc.length=jM at*;generalize B.bm.length=p3 at*;generalize B.tb.length=ki at*;generalize B.sc.length=mK at*;generalize aA:cs.length=n at*;have bk:=hid aA;clear af G9 aA;go_enter func3,ntmps3
 go_upto_region 1 with fail
 generalize ar:(w.alloc _).alloc _=W at*;obtain⟨aF,ec,fB⟩:=Kept.a6 ar;clear ar;have cN:=hid aF;have jj:=hid (fun w1 (h:Kept W w1)=>ec.kept h);have mW:=hid (fun w1 (h:Kept W w1)=>fB.kept h);obtain⟨bN,h5⟩:=ec.p;clear ec fB aF;by_cases eJ:6<n
 case pos=>
  have VV:(6:Int)<n:=by omega
  clear eJ xE oa xF xG;go_wp2_with (first|(go_at_call_of 4 (Value.agg #[Value.slice pf p2 pF,Value.slice pj p4 pJ,Value.slice sf jM pH]);refine (Df.out _ cN.out).mono ?_;rintro r w1 ⟨b,rfl,ak,aO⟩;have c9:=mW.out _ ak;have bJ:=c9.cell;have dP:=c9.lt;have dy:=jj.out _ ak;have d4:=dy.cell;have m4:=dy.lt;have u9:=hid aO;clear aO c9 dy;cases b)|(go_at_call_of 4 (Value.agg #[Value.slice pg p3 pG,Value.slice pk ki pK,Value.slice ph mK pI]);refine (fM.out _ (cN.out.trans ak)).mono ?_;rintro r w2 ⟨b,rfl,a',aN⟩;have bR:=ak.trans a';have dy:=jj.out _ bR;have fh:=dy.cell;have qQ:=dy.lt;have sw:=hid aN;clear aN dy;cases b)|(first|(go_at_call 5;refine (cD.out _ (cN.out.trans bR)).mono ?_;rintro r hZ ⟨rfl,lN⟩;have nL:=(cN.out.trans bR).trans lN)|(go_at_call 5;refine (cD.out _ (cN.out.trans ak)).mono ?_;rintro r hZ ⟨rfl,lN⟩;have nL:=(cN.out.trans ak).trans lN)|(go_at_call 5;refine (cD.out _ (cN.out.trans (aQ _))).mono ?_;rintro r hZ ⟨rfl,lN⟩;have nL:=(cN.out.trans (aQ _)).trans lN)))
  all_goals
   go_ret;exact⟨rfl,nL⟩
 have VV:¬((6:Int)<n):=by omega
 by_cases ck:jM=0
 case pos=>
  have hzi:((jM:Int)==0)=true:=by simpa using ck
  clear eJ ck xE oa xF xG;go_wp2_with (first|(go_at_call_of 4 (Value.agg #[Value.slice pf p2 pF,Value.slice pj p4 pJ,Value.slice sf jM pH]);refine (Df.out _ cN.out).mono ?_;rintro r w1 ⟨b,rfl,ak,aO⟩;have c9:=mW.out _ ak;have bJ:=c9.cell;have dP:=c9.lt;have dy:=jj.out _ ak;have d4:=dy.cell;have m4:=dy.lt;have u9:=hid aO;clear aO c9 dy;cases b)|(go_at_call_of 4 (Value.agg #[Value.slice pg p3 pG,Value.slice pk ki pK,Value.slice ph mK pI]);refine (fM.out _ (cN.out.trans ak)).mono ?_;rintro r w2 ⟨b,rfl,a',aN⟩;have bR:=ak.trans a';have dy:=jj.out _ bR;have fh:=dy.cell;have qQ:=dy.lt;have sw:=hid aN;clear aN dy;cases b)|(first|(go_at_call 5;refine (cD.out _ (cN.out.trans bR)).mono ?_;rintro r hZ ⟨rfl,lN⟩;have nL:=(cN.out.trans bR).trans lN)|(go_at_call 5;refine (cD.out _ (cN.out.trans ak)).mono ?_;rintro r hZ ⟨rfl,lN⟩;have nL:=(cN.out.trans ak).trans lN)|(go_at_call 5;refine (cD.out _ (cN.out.trans (aQ _))).mono ?_;rintro r hZ ⟨rfl,lN⟩;have nL:=(cN.out.trans (aQ _)).trans lN)))
  all_goals
   go_ret;exact⟨rfl,nL⟩
 have hzi:((jM:Int)==0)=false:=by simpa using ck
 go_upto_region 4 with (first|(go_at_call_of 4 (Value.agg #[Value.slice pf p2 pF,Value.slice pj p4 pJ,Value.slice sf jM pH]);refine (Df.out _ cN.out).mono ?_;rintro r w1 ⟨b,rfl,ak,aO⟩;have c9:=mW.out _ ak;have bJ:=c9.cell;have dP:=c9.lt;have dy:=jj.out _ ak;have d4:=dy.cell;have m4:=dy.lt;have u9:=hid aO;clear aO c9 dy;cases b)|(go_at_call_of 4 (Value.agg #[Value.slice pg p3 pG,Value.slice pk ki pK,Value.slice ph mK pI]);refine (fM.out _ (cN.out.trans ak)).mono ?_;rintro r w2 ⟨b,rfl,a',aN⟩;have bR:=ak.trans a';have dy:=jj.out _ bR;have fh:=dy.cell;have qQ:=dy.lt;have sw:=hid aN;clear aN dy;cases b)|(first|(go_at_call 5;refine (cD.out _ (cN.out.trans bR)).mono ?_;rintro r hZ ⟨rfl,lN⟩;have nL:=(cN.out.trans bR).trans lN)|(go_at_call 5;refine (cD.out _ (cN.out.trans ak)).mono ?_;rintro r hZ ⟨rfl,lN⟩;have nL:=(cN.out.trans ak).trans lN)|(go_at_call 5;refine (cD.out _ (cN.out.trans (aQ _))).mono ?_;rintro r hZ ⟨rfl,lN⟩;have nL:=(cN.out.trans (aQ _)).trans lN)))
 ·go_ret;exact⟨rfl,nL⟩
 ·go_ret;exact⟨rfl,nL⟩
 have Be:=hid (u9.out (by trivial));have iD:=hid (sw.out (by trivial));have Db:=hid eJ;clear bN h5 bJ dP d4 m4 fh qQ u9 sw Df fM ak a' VV eJ;go_loopw [9] (fun y wr=>∃i:Nat,y= .int .i64 i∧i≤n∧Kept W wr) (fun y _=>n-(intOf y).toNat)
 case atStart=>exact⟨0,rfl,Nat.zero_le _,bR⟩
 case round=>
  obtain⟨i,rfl,de,ab⟩:=hrel;by_cases aD:i<n
  ·obtain⟨hs,go,rfl,ic,hx⟩:=bn.out (by omega);have ai:cs[i]?=some (cs[i]'(by have:=bk.out;omega)):=a8 _;obtain⟨⟨t0,-⟩,⟨bo,t1,bC⟩,fP,bW,t2,br⟩:=hx i _ ai;generalize cs[i]'(by have:=bk.out;omega)=c at*;obtain⟨dt,ins,mem⟩:=c;dsimp only at*;unfold ed at t0 t1 t2;have bu:=cN.out.trans ab;replace t0:=bu.ad ic t0;replace t1:=bu.ad ic t1;replace t2:=bu.ad ic t2;have Dg:=hid (ai1 dt bo bW ins mem wr (bC.kept bu) (br.kept bu));unfold DF at Dg;obtain⟨dS,gP,rfl,-⟩:=bC;obtain⟨eH,kY,rfl,-⟩:=br;generalize ins.length=b1 at*;generalize mem.length=ew at*;have sO:=bd ic bu.size;have c6:(i:Int)<n:=by omega
   have K8:(i:Int)+1≤9223372036854775807:=by omega
   have iR:=hid (And.intro aD de);have mr:=hid ab;clear hx ai fP bu aD de ab bR;go_wp2_with (first|(go_at_call 6;refine Dg.out.mono ?_;rintro r cw ⟨b,rfl,bw,-⟩;have fe:=mr.out.trans bw;cases b)|(go_at_call 5;refine (cD.out _ (cN.out.trans fe)).mono ?_;rintro r hZ ⟨rfl,lN⟩;have nL:=(cN.out.trans fe).trans lN))
   ·go_ret;exact⟨rfl,nL⟩
   go_roundw
   case rel=>exact⟨i+1,by go_num,iR.out.1,fe⟩
   case measure=>simp[intOf];have:=iR.out;omega
  ·obtain rfl:i=n:=by omega
   have c6:¬((i:Int)<i):=by omega
   generalize wr=wJ at*;have dy:=jj.out _ ab;obtain⟨bN,h5⟩:=dy.p;have c9:=mW.out _ ab;obtain⟨bJ,dP⟩:=c9.p;clear dy c9 bR;obtain⟨sc,ih⟩:∃sc:Int,(jM:Int)-1=sc:=⟨_,rfl⟩;have lG:=hid (oa.out sc wJ (cN.out.trans ab) (by have:=Db.out;have:=bk.out;omega) Be.out iD.out);clear oa;go_upto_region 10 with (go_at_call 7;refine lG.out.mono ?_;rintro az w1 ⟨v,a,b,c,e,f,g,h,k,rfl,ak,lQ,db,-⟩;have hM:=hid (And.intro lQ db);clear lQ db)
   have xT:=ab.trans (ak.alloc (.cells #[a,b,c,e,f,g,h] 37));have Jg:=hid (ak.alloc (.cells #[a,b,c,e,f,g,h] 37));have T5:=(aQ w1).alloc (.cells #[a,b,c,e,f,g,h] 37);have xA:=ao.new w1 37 #[a,b,c,e,f,g,h];clear bN h5 bJ dP ak;generalize w1.alloc (.cells #[a,b,c,e,f,g,h] 37)=bG at*;by_cases aa:k=0
   case neg=>
    obtain rfl:=hM.out.1 aa;obtain⟨aO,aN⟩:=fr aa;clear aa xA;go_wp2_with (go_at_call 5;refine (cD.out _ (cN.out.trans xT)).mono ?_;rintro r hZ ⟨rfl,lN⟩;have nL:=(cN.out.trans xT).trans lN)
    go_ret;exact⟨rfl,nL⟩
   subst aa;obtain⟨⟨xs,⟨ane,anI,rfl,YK⟩,hm,fF⟩,Ef,ea,sM⟩:=hM.out.2 rfl;have HU:xs.length=i:=by
    have:=congrArg List.length hm;rw[List.length_map,List.length_map,bk.out]at this;exact this
   generalize rO:xs.length=Io at*;obtain rfl:i=Io:=HU.symm;have rb:=hid rO;have zq:=hid YK;have Tx:=hid T5;have Ng:=hid hm;have tw:=hid fF;have tp:=hid sM;have tk:=hid (And.intro Ef ea);generalize W6:cs.map (lh A B sc d)=Ds at*;have S':=hid W6;have bN:=(jj.out _ xT).cell;have h5:=(jj.out _ xT).lt;have bJ:=(mW.out _ xT).cell;have dP:=(mW.out _ xT).lt;have TO:=hid (xE.out bG (cN.out.trans xT) Be.out iD.out);clear YK hm fF sM Ef ea W6 rO HU T5 hM xE lG;go_upto_region 13 with (go_at_call 8;refine TO.out.mono ?_;rintro a6 w2 ⟨v2,rfl,⟨cM,Gy,rfl,-⟩,a'⟩)
   have ek:=xT.trans a';have er:=hid (Tx.out.trans a');have KV0:=hid a';have y3:=xA.kept a';generalize vC:(j2 A B).length=uo at*;have zg:=hid vC;clear bN h5 bJ dP a' xT xA TO vC ab;go_upto_region 17 with fail
   go_loopw [15,16] (fun x y wr=>∃j:Nat,x= .int .i64 (mA (Ds.take j))∧y= .int .i64 j∧j≤i∧Kept w2 wr) (fun _ y _=>i-(intOf y).toNat)
   case atStart=>exact⟨0,rfl,rfl,Nat.zero_le _,aQ _⟩
   case round=>
    obtain⟨j,rfl,rfl,gu,ab⟩:=hrel;by_cases aD:j<i
    ·obtain⟨hs,go,rfl,ic,hx⟩:=bn.out (by omega);have ai:cs[j]?=some (cs[j]'(by have:=bk.out;omega)):=a8 _;obtain⟨⟨t0,-⟩,⟨bo,t1,bC⟩,fP,bW,t2,br⟩:=hx j _ ai;have Xm:Ds[j]?=some (lh A B sc d (cs[j]'(by have:=bk.out;omega))):=by rw[←S'.out,List.getElem?_map,ai];rfl
     have abB:=hid (fun w1 (h:Kept w w1)=>xF.out bo bW sc _ w1 h bC br fP);have abC:=hid (fun w1 (h:Kept w w1)=>xG.out bo bW sc _ w1 h bC br fP);generalize cs[j]'(by have:=bk.out;omega)=b5 at*;obtain⟨dt,ins,mem⟩:=b5;dsimp only at*;obtain⟨dS,gP,rfl,-⟩:=bC;obtain⟨eH,kY,rfl,-⟩:=br;generalize ins.length=b1 at*;generalize mem.length=ew at*;unfold ed at t0 t1 t2;have bu:=(cN.out.trans ek).trans ab;replace t0:=bu.ad ic t0;replace t1:=bu.ad ic t1;replace t2:=bu.ad ic t2;have sO:=bd ic bu.size;have hE:(j:Int)<i:=by omega
     have w7:(j:Int)+1≤9223372036854775807:=by omega
     have FP:=hid bu;have lb:=hid (show lh A B sc d ⟨dt,ins,mem⟩=⟨(h3 A sc ⟨dt,ins,mem⟩ d).1,(h3 B sc ⟨dt,ins,mem⟩ d).1,(h3 A sc ⟨dt,ins,mem⟩ d).2,(h3 B sc ⟨dt,ins,mem⟩ d).2⟩from rfl);have M6:=hid (adl (A:=A) (B:=B) (sc:=sc) (d:=d) (c:=⟨dt,ins,mem⟩));have aby:=hid (fun (h:kL A B sc d)=>adI h ⟨dt,ins,mem⟩);generalize lh A B sc d ⟨dt,ins,mem⟩=X at*;generalize h3 A sc ⟨dt,ins,mem⟩ d=eC at*;generalize h3 B sc ⟨dt,ins,mem⟩ d=iG at*;obtain⟨⟨b9,cL,an⟩,ac⟩:=eC;obtain⟨⟨dv,be,cc⟩,ku⟩:=iG;dsimp only at*;have bN:=(jj.out _ (ek.trans ab)).cell;have h5:=(jj.out _ (ek.trans ab)).lt;have dP:=(mW.out _ (ek.trans ab)).lt;have I':=hid Xm;have mr:=hid ab;have iR:=hid aD;have KE:=jj.out _ (ek.trans ab);have ej:=hid (show∀X,Kept wr X→(Kept wr X∧X.cell? ⟨w.heap.size,0,none⟩=some (.slice pf p2 pF)∧X.cell? ⟨w.heap.size,1,none⟩=some (.slice pj p4 pJ)∧X.cell? ⟨w.heap.size,2,none⟩=some (.slice sf jM pH)∧X.cell? ⟨hs,go+j*3,none⟩=some (.int .i64 dt)∧X.cell? ⟨hs,go+j*3+1,none⟩=some (.slice dS b1 gP)∧X.cell? ⟨hs,go+j*3+2,none⟩=some (.slice eH ew kY))from fun X h=>⟨h,(KE.kept h).cell 0,(KE.kept h).cell 1,(KE.kept h).cell 2,h.ad sO t0,h.ad sO t1,h.ad sO t2⟩);clear hx ai Xm fP ab bu aD KE;obtain⟨-,z0,e6,z2,-,-,-⟩:=ej.out wr (aQ _);clear bN;go_upto_region 19 with fail
     go_cut [17,18,19] (fun x y z bt=>∃(g17 g19:Nat) (r cE a2 a3:Int),x= .pointer (some ⟨g17,0,none⟩)∧y= .int .i64 r∧z= .pointer (some ⟨g19,0,none⟩)∧ao bt g17 44 #[b9,cL,an]∧ao bt g19 46 #[ac,cE,a2,a3]∧Kept wr bt)
     case first=>
      go_region_held3 (fun X=>Kept wr X∧X.cell? ⟨w.heap.size,0,none⟩=some (.slice pf p2 pF)∧X.cell? ⟨w.heap.size,1,none⟩=some (.slice pj p4 pJ)∧X.cell? ⟨w.heap.size,2,none⟩=some (.slice sf jM pH)∧X.cell? ⟨hs,go+j*3,none⟩=some (.int .i64 dt)∧X.cell? ⟨hs,go+j*3+1,none⟩=some (.slice dS b1 gP)∧X.cell? ⟨hs,go+j*3+2,none⟩=some (.slice eH ew kY))
       ((refine ej.out _ ?_;(with_reducible repeat (first|exact .refl _|assumption|refine .drew ?_|refine .alloc ?_ _|refine .setCell ?_ (by (try simp only)<;>(try simp)<;>omega) _|refine .trans ?_ ‹Kept _ _›))))
       ((go_at_call 9;refine (abB.out _ (FP.out.trans ?_)).mono ?_;(·(with_reducible repeat (first|exact .refl _|assumption|refine .drew ?_|refine .alloc ?_ _|refine .setCell ?_ (by (try simp only)<;>(try simp)<;>omega) _|refine .trans ?_ ‹Kept _ _›)));rintro b7 cw ⟨r,cE,a2,a3,rfl,-,bw⟩;have ri:=hid bw.size;have o6:=bw.size;(try simp at o6);(try (have aK:=ao.kept (ao.drew (ao.new wr 44 #[(),(),()])) bw;have hA1:=aK.cell;have BP:=aK.frozen;have VX:=aK.lt));(try (have aU:=ao.kept (ao.drew (ao.new wr 46 #[(),(),(),()])) bw;have BQ:=aU.cell;have ib:=aU.frozen;have hB3:=aU.lt));(try (have hC:=ao.kept (ao.drew ((ao.new wr 44 #[(),(),()]).alloc (.cells #[(),(),(),()] 46))) bw;have lj:=hC.cell;have oU:=hC.frozen;have hC3:=hC.lt));(try (have b':=ao.kept (ao.drew (zJ (W:=wr.alloc (.cells #[(),(),()] 44)) (g:=wr.heap.size+1) (T:=46) (cs:=#[(),(),(),()]) (by simp))) bw;have D4:=b'.cell;have nV:=b'.frozen;have hD3:=b'.lt));(try (have aX:=ao.kept (ao.drew ((ao.new wr 46 #[(),(),(),()]).alloc (.cells #[(),(),()] 44))) bw;have D5:=aX.cell;have hE2:=aX.frozen;have hE3:=aX.lt));(try (have hF:=ao.kept (ao.drew (zJ (W:=wr.alloc (.cells #[(),(),(),()] 46)) (g:=wr.heap.size+1) (T:=44) (cs:=#[(),(),()]) (by simp))) bw;have mB:=hF.cell;have KH:=hF.frozen;have D8:=hF.lt));have KW3:Kept wr cw:=(by (with_reducible repeat (first|exact .refl _|assumption|refine .drew ?_|refine .alloc ?_ _|refine .setCell ?_ (by (try simp only)<;>(try simp)<;>omega) _|refine .trans ?_ ‹Kept _ _›)))))
      all_goals
       rename_i hHeld;clear hHeld;go_wp2_with fail
       go_meet;exact⟨_,_,r,cE,a2,a3,rfl,rfl,rfl,by (with_reducible repeat (first|exact zJ (by simp)|refine JZ ?_ (by omega) _ _ _ _|refine dy (a:= .int .i64 0) (b:= .int .i64 0) (c:= .int .i64 0) (d:= .int .i64 0) ?_ _ _ _ _|refine wL ?_ (by omega) _ _ _|refine eh (a:= .int .i64 0) (b:= .int .i64 0) (c:= .int .i64 0) ?_ _ _ _|refine ao.alloc ?_ _|refine ao.drew ?_|refine ao.kept ?_ bw)),by (with_reducible repeat (first|exact zJ (by simp)|refine JZ ?_ (by omega) _ _ _ _|refine dy (a:= .int .i64 0) (b:= .int .i64 0) (c:= .int .i64 0) (d:= .int .i64 0) ?_ _ _ _ _|refine wL ?_ (by omega) _ _ _|refine eh (a:= .int .i64 0) (b:= .int .i64 0) (c:= .int .i64 0) ?_ _ _ _|refine ao.alloc ?_ _|refine ao.drew ?_|refine ao.kept ?_ bw)),by (with_reducible repeat (first|exact .refl _|assumption|refine .drew ?_|refine .alloc ?_ _|refine .setCell ?_ (by (try simp only)<;>(try simp)<;>omega) _|refine .trans ?_ ‹Kept _ _›))⟩
     case rest=>
      obtain⟨g17,g19,r,cE,a2,a3,rfl,rfl,rfl,GZ,G0,D_⟩:=hcut;generalize wc=l4 at*;have jk:=hid (mr.out.trans D_);have abu:=hid GZ;have abv:=hid G0;have abM:=hid (FP.out.trans D_);have hl3:=bd sO D_.size;have HA:=D_.size;have yc:=mW.out _ (ek.trans jk.out);have SW:=hid (show∀X,Kept l4 X→(Kept l4 X∧X.cell? ⟨w.heap.size+1,0,none⟩=some (.slice pg p3 pG)∧X.cell? ⟨w.heap.size+1,1,none⟩=some (.slice pk ki pK)∧X.cell? ⟨w.heap.size+1,2,none⟩=some (.slice ph mK pI)∧X.cell? ⟨hs,go+j*3,none⟩=some (.int .i64 dt)∧X.cell? ⟨hs,go+j*3+1,none⟩=some (.slice dS b1 gP)∧X.cell? ⟨hs,go+j*3+2,none⟩=some (.slice eH ew kY))from fun X h=>have b:=ej.out X (D_.trans h);⟨h,(yc.kept h).cell 0,(yc.kept h).cell 1,(yc.kept h).cell 2,b.2.2.2.2⟩);have dP:=yc.lt;clear GZ G0 z0 e6 z2 h5 sO ej D_ yc t0 t1 t2 HA;obtain⟨-,z0,e6,z2,t0,t1,t2⟩:=SW.out l4 (aQ _);go_upto_region 20 with fail
      go_cut [20,21,22] (fun x y z bt=>∃(g20 g22:Nat) (r bY bc eh:Int),x= .pointer (some ⟨g20,0,none⟩)∧y= .int .i64 r∧z= .pointer (some ⟨g22,0,none⟩)∧ao bt g20 44 #[dv,be,cc]∧ao bt g22 46 #[ku,bY,bc,eh]∧Kept l4 bt)
      case first=>
       go_region_held3 (fun X=>Kept l4 X∧X.cell? ⟨w.heap.size+1,0,none⟩=some (.slice pg p3 pG)∧X.cell? ⟨w.heap.size+1,1,none⟩=some (.slice pk ki pK)∧X.cell? ⟨w.heap.size+1,2,none⟩=some (.slice ph mK pI)∧X.cell? ⟨hs,go+j*3,none⟩=some (.int .i64 dt)∧X.cell? ⟨hs,go+j*3+1,none⟩=some (.slice dS b1 gP)∧X.cell? ⟨hs,go+j*3+2,none⟩=some (.slice eH ew kY))
        ((refine SW.out _ ?_;(with_reducible repeat (first|exact .refl _|assumption|refine .drew ?_|refine .alloc ?_ _|refine .setCell ?_ (by (try simp only)<;>(try simp)<;>omega) _|refine .trans ?_ ‹Kept _ _›))))
        ((go_at_call 9;refine (abC.out _ (abM.out.trans ?_)).mono ?_;(·(with_reducible repeat (first|exact .refl _|assumption|refine .drew ?_|refine .alloc ?_ _|refine .setCell ?_ (by (try simp only)<;>(try simp)<;>omega) _|refine .trans ?_ ‹Kept _ _›)));rintro b7 cw ⟨r,cE,a2,a3,rfl,-,bw⟩;have ri:=hid bw.size;have o6:=bw.size;(try simp at o6);(try (have aK:=ao.kept (ao.drew (ao.new l4 44 #[(),(),()])) bw;have hA1:=aK.cell;have BP:=aK.frozen;have VX:=aK.lt));(try (have aU:=ao.kept (ao.drew (ao.new l4 46 #[(),(),(),()])) bw;have BQ:=aU.cell;have ib:=aU.frozen;have hB3:=aU.lt));(try (have hC:=ao.kept (ao.drew ((ao.new l4 44 #[(),(),()]).alloc (.cells #[(),(),(),()] 46))) bw;have lj:=hC.cell;have oU:=hC.frozen;have hC3:=hC.lt));(try (have b':=ao.kept (ao.drew (zJ (W:=l4.alloc (.cells #[(),(),()] 44)) (g:=l4.heap.size+1) (T:=46) (cs:=#[(),(),(),()]) (by simp))) bw;have D4:=b'.cell;have nV:=b'.frozen;have hD3:=b'.lt));(try (have aX:=ao.kept (ao.drew ((ao.new l4 46 #[(),(),(),()]).alloc (.cells #[(),(),()] 44))) bw;have D5:=aX.cell;have hE2:=aX.frozen;have hE3:=aX.lt));(try (have hF:=ao.kept (ao.drew (zJ (W:=l4.alloc (.cells #[(),(),(),()] 46)) (g:=l4.heap.size+1) (T:=44) (cs:=#[(),(),()]) (by simp))) bw;have mB:=hF.cell;have KH:=hF.frozen;have D8:=hF.lt));have KW3:Kept l4 cw:=(by (with_reducible repeat (first|exact .refl _|assumption|refine .drew ?_|refine .alloc ?_ _|refine .setCell ?_ (by (try simp only)<;>(try simp)<;>omega) _|refine .trans ?_ ‹Kept _ _›)))))
       all_goals
        rename_i hHeld;clear hHeld;go_wp2_with fail
        go_meet;exact⟨_,_,r,cE,a2,a3,rfl,rfl,rfl,by (with_reducible repeat (first|exact zJ (by simp)|refine JZ ?_ (by omega) _ _ _ _|refine dy (a:= .int .i64 0) (b:= .int .i64 0) (c:= .int .i64 0) (d:= .int .i64 0) ?_ _ _ _ _|refine wL ?_ (by omega) _ _ _|refine eh (a:= .int .i64 0) (b:= .int .i64 0) (c:= .int .i64 0) ?_ _ _ _|refine ao.alloc ?_ _|refine ao.drew ?_|refine ao.kept ?_ bw)),by (with_reducible repeat (first|exact zJ (by simp)|refine JZ ?_ (by omega) _ _ _ _|refine dy (a:= .int .i64 0) (b:= .int .i64 0) (c:= .int .i64 0) (d:= .int .i64 0) ?_ _ _ _ _|refine wL ?_ (by omega) _ _ _|refine eh (a:= .int .i64 0) (b:= .int .i64 0) (c:= .int .i64 0) ?_ _ _ _|refine ao.alloc ?_ _|refine ao.drew ?_|refine ao.kept ?_ bw)),by (with_reducible repeat (first|exact .refl _|assumption|refine .drew ?_|refine .alloc ?_ _|refine .setCell ?_ (by (try simp only)<;>(try simp)<;>omega) _|refine .trans ?_ ‹Kept _ _›))⟩
      case rest=>
       obtain⟨g20,g22,i_,bY,bc,eh,rfl,rfl,rfl,V0,V1,KI⟩:=hcut;generalize wc=Uh at*;have tr:=hid (jk.out.trans KI);have GZ:=abu.out.kept KI;have G0:=abv.out.kept KI;have e4:xs[j]?=some (xs[j]'(by have:=rb.out;have:=iR.out;omega)):=a8 _;have QI:(xs[j]'(by have:=rb.out;have:=iR.out;omega)).qN=X:=by
        have I:=congrArg (fun l:List kS=>l[j]?) Ng.out;simp only[List.getElem?_map]at I;rw[I'.out,e4]at I;exact Option.some.inj I
       obtain⟨R,ky,k0⟩:=tw.out _ (List.mem_of_getElem? e4);obtain⟨wa,gI,rfl,rV,YG⟩:=zq.out (by omega);have ah:=YG j _ e4;generalize xs[j]'(by have:=rb.out;have:=iR.out;omega)=x at*;obtain⟨aoX,q2⟩:=x;dsimp only at QI k0;rw[lb.out]at QI;subst QI k0;have pN:=((Tx.out.trans KV0.out).trans tr.out);have bZ:w1.cell? ⟨wa,gI+j*9,none⟩=some _:=ah 0 _ rfl;have b3:w1.cell? ⟨wa,gI+j*9+1,none⟩=some _:=ah 1 _ rfl;have cT:w1.cell? ⟨wa,gI+j*9+2,none⟩=some _:=ah 2 _ rfl;have ha:w1.cell? ⟨wa,gI+j*9+3,none⟩=some _:=ah 3 _ rfl;have h0:w1.cell? ⟨wa,gI+j*9+4,none⟩=some _:=ah 4 _ rfl;have se:w1.cell? ⟨wa,gI+j*9+5,none⟩=some _:=ah 5 _ rfl;have yZ:w1.cell? ⟨wa,gI+j*9+6,none⟩=some _:=ah 6 _ rfl;have IS:w1.cell? ⟨wa,gI+j*9+7,none⟩=some _:=ah 7 _ rfl;have tc:w1.cell? ⟨wa,gI+j*9+8,none⟩=some _:=ah 8 _ rfl;replace bZ:=pN.ad rV bZ;replace b3:=pN.ad rV b3;replace cT:=pN.ad rV cT;replace ha:=pN.ad rV ha;replace h0:=pN.ad rV h0;replace se:=pN.ad rV se;replace yZ:=pN.ad rV yZ;replace IS:=pN.ad rV IS;replace tc:=pN.ad rV tc;have afJ:=bd rV pN.size;have HRP:=hid (show lX X→0<(vW A B sc d).length∧0<uo from fun h=>by
        have I:=aby.out (tp.out (fun aj=>by have:=bk.out;rw[aj]at this;have:=iR.out;simp at*;omega)) h;exact⟨I,by rw[←zg.out];exact bd I (List.length_filter_le _ _)⟩)
       generalize (vW A B sc d).length=c' at*;have C5:=hid (fun w1=>YW X R c' ky w1);rw[lb.out]at C5;unfold dE Ct at C5;dsimp only at C5;rw[←lb.out]at C5;have mX:=hid (U2 I'.out);clear e4 YG ah KI z0 e6 z2 t0 t1 t2 dP hl3;go_upto_region 22 with fail
       generalize ar:Uh.alloc _=Ui at*;obtain⟨uT,MS⟩:=Kept.az ar;clear ar;clear bZ b3 cT ha h0 se yZ IS tc afJ;have d17:=GZ.kept uT;have d19:=G0.kept uT;have d20:=V0.kept uT;have d22:=V1.kept uT;have Je:=hid (tr.out.trans uT);clear uT GZ G0 V0 V1;generalize Uh.heap.size=g23 at*;obtain⟨Oq,Q1⟩:=d17.p;obtain⟨UM,l19⟩:=d19.p;obtain⟨J9,l20⟩:=d20.p;obtain⟨Ot,l22⟩:=d22.p;obtain⟨c23,l23⟩:=MS.p;have abx:=hid MS;clear d17 d19 d20 d22 MS;go_upto_region 24 with fail
       have tm:=hid (show lX X↔¬(b9=dv∧cL=be∧an=cc∧(ac=0↔ku=0))from M6.out.trans (not_congr ⟨fun k=>⟨(bg.mk.inj k.1).1,(bg.mk.inj k.1).2.1,(bg.mk.inj k.1).2.2,k.2⟩,fun k=>⟨by rw[k.1,k.2.1,k.2.2.1],k.2.2.2⟩⟩));obtain⟨BC,KW⟩:∃BC:Bool,(BC=true↔b9=dv∧cL=be∧an=cc∧(ac=0↔ku=0)):=by
        by_cases h:b9=dv∧cL=be∧an=cc∧(ac=0↔ku=0)
        ·exact⟨true,iff_of_true rfl h⟩
        ·exact⟨false,iff_of_false (by simp) h⟩
       have M8:=hid (show (b9=dv∧cL=be∧an=cc∧(ac=0↔ku=0))→BC=true from KW.2);have zb:=hid (show¬(b9=dv∧cL=be∧an=cc∧(ac=0↔ku=0))→BC=false from fun h=>by cases BC<;>first|rfl|exact absurd (KW.1 rfl) h);have S4:=hid KW;clear KW;go_cut [156] (fun v bt=>v= .bool BC∧bt=Ui)
       case first=>
        by_cases az:b9=dv
        case neg=>
         have av:=zb.out (fun k=>az k.1);obtain⟨aO,aN⟩:=fr az;clear az;go_wp2_with fail
         go_meet;exact⟨by rw[av],rfl⟩
        rw[←az]at J9;by_cases a6:cL=be
        case neg=>
         have av:=zb.out (fun k=>a6 k.2.1);obtain⟨aO,aN⟩:=fr a6;clear a6;go_wp2_with fail
         go_meet;exact⟨by rw[av],rfl⟩
        rw[←a6]at J9;by_cases b7:an=cc
        case neg=>
         have av:=zb.out (fun k=>b7 k.2.2.1);obtain⟨aO,aN⟩:=fr b7;clear b7;go_wp2_with fail
         go_meet;exact⟨by rw[av],rfl⟩
        rw[←b7]at J9;by_cases fh:ac=0
        case pos=>
         rw[fh]at UM;by_cases hr:ku=0
         case pos=>
          have av:=M8.out ⟨az,a6,b7,iff_of_true fh hr⟩;rw[hr]at Ot;clear az a6 b7 fh hr;go_wp2_with fail
          go_meet;exact⟨by rw[av],rfl⟩
         have av:=zb.out (fun k=>hr (k.2.2.2.1 fh));obtain⟨aO,aN⟩:=fr hr;clear az a6 b7 fh hr;go_wp2_with fail
         go_meet;exact⟨by rw[av],rfl⟩
        obtain⟨aO,aN⟩:=fr fh;by_cases hr:ku=0
        case pos=>
         have av:=zb.out (fun k=>fh (k.2.2.2.2 hr));rw[hr]at Ot;clear az a6 b7 fh hr;go_wp2_with fail
         go_meet;exact⟨by rw[av],rfl⟩
        have av:=M8.out ⟨az,a6,b7,iff_of_false fh hr⟩;obtain⟨cK,dA⟩:=fr hr;clear az a6 b7 fh hr;go_wp2_with fail
        go_meet;exact⟨by rw[av],rfl⟩
       case rest=>
        obtain⟨rfl,yt⟩:=hcut;obtain rfl:Ui=wc:=yt.symm;clear Oq Q1 UM l19 J9 l20 Ot l22 M8 zb
        cases BC
        case true=>
         have hC:¬lX X:=fun k=>tm.out.1 k (S4.out.1 rfl);have bI:=hid hC;rw[UZ hC,if_neg (by simp),Nat.add_zero]at mX;have q9:=hid mX.out;clear hC;go_wp2_with (go_at_call 10;refine (C5.out _).mono ?_;rintro hr cf ⟨b,rfl,J,cQ⟩;obtain rfl:b=false:=(by cases b<;>first|rfl|exact absurd (J.1 rfl) bI.out);clear J)
         go_roundw
         case rel=>exact⟨j+1,by rw[q9.out,Nat.add_zero],by go_num,iR.out,Je.out.trans cQ⟩
         case measure=>simp[intOf];have:=iR.out;omega
        case false=>
         have hC:lX X:=tm.out.2 (fun h=>by have:=S4.out.2 h;cases this);obtain⟨Ch,ua⟩:=HRP.out hC;have bI:=hid hC;rw[Ox hC,if_pos rfl]at mX;have q9:=hid mX.out;have jJ:((c':Int)==0)=false:=by simp;omega
         have jK:((uo:Int)==0)=false:=by simp;omega
         have hh:(mA (Ds.take j):Int)+1≤9223372036854775807:=by have:=U1 (Ds.take j);rw[List.length_take]at this;have:=Db.out;have:=iR.out;omega
         clear hC Ch ua;generalize mA (Ds.take j)=q at*;go_wp2_with (go_at_call 10;refine (C5.out _).mono ?_;rintro hr cf ⟨b,rfl,J,cQ⟩;obtain rfl:=J.2 bI.out;clear J;have Og:=abx.out.kept cQ;have c33:=Og.cell;have l33:=Og.lt;clear Og)
         go_roundw
         case rel=>exact⟨j+1,by rw[q9.out];go_num,by go_num,iR.out,Je.out.trans cQ⟩
         case measure=>simp[intOf];have:=iR.out;omega
    ·obtain rfl:j=i:=by omega
     have hE:¬((j:Int)<j):=by omega
     have Bl:=hid (cD.out wr ((cN.out.trans ek).trans ab));have ze:=hid ((cN.out.trans ek).trans ab);have MR:=y3.kept ab;rw[List.take_of_length_le (by rw[←S'.out,List.length_map,bk.out];exact Nat.le_refl _)];obtain⟨aZ,J⟩:=tk.out;rw[aZ,J]at MR;generalize mA Ds=q at*;obtain⟨zM,Ap⟩:=MR.p;clear aZ J MR;go_wp2_with (go_at_call 5;refine Bl.out.mono ?_;rintro r hZ ⟨rfl,lN⟩)
     go_ret;exact⟨rfl,ze.out.trans lN⟩
end Go.Proofs.YtobpgndkciofhaaGreatDoor
