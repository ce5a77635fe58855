import Derived.Test.YtobpgndkciofhaaGreatDoorAC
import Derived.Test.YtobpgndkciofhaaGreatDoorN
set_option linter.all false
namespace Go.Proofs.YtobpgndkciofhaaGreatDoor
open Go.RowKit Go.Proofs.Tryz
open Go.Lib (hid)
set_option maxRecDepth 100000
set_option maxHeartbeats 32000000
theorem Ve {w:World} {B:Nat} {A:Option Addr} {n cap:Nat} {l:List Int} (x:Int) (h:cn w B (.slice A n cap) l) (aq:l.length≤2000000):Calls prog 97 #[.slice A n cap,x] w (gW (l.contains x) w):=by
 obtain⟨nE,gf,he,af⟩:=fC.at_ h.reads
 cases he;by_cases aj:l.length=0
 ·have:l=[]:=List.length_eq_zero_iff.1 aj;subst this;exact (Tryz.slices_Contains_int_empty A cap x w).mono fun _ _ h=>⟨h.1,h.2▸aQ _⟩
 ·obtain⟨b,off,rfl,J,ah⟩:=af (by omega);refine (Tryz.slices_Contains_int b off l.length cap l x w (Nat.le_refl _) (by omega) fun i aE=> ?_).mono fun _ _ h=>⟨?_,h.2▸aQ _⟩
  ·have ai:l[i]?=some (l.getD i 0):=by rw[List.getD_eq_getElem?_getD,a8 aE];rfl
   exact ah i _ ai
  ·rw[h.1,List.take_length]
theorem adh (bT:Value) (l:cZ) (i:Nat) (s:bP) (w:World) (bL:gy w bT l) (aE:l.sc[i]?=some s):Calls prog 63 #[bT,i] w (lK (oh l i s) w):=by
 have tB:=hid (fun w1 (h:Kept w w1)=>aiY bT l i s w1 (bL.kept h) aE);unfold R1 at tB;obtain⟨c_,b4,b2,rfl,aj,I,U⟩:=bL;have fP:=(b8 aE).1;have cv:=hid (fun w1 (h:Kept w w1)=>PM c_ _ s.ag w1 (aj.kept n_.kept h));have ch:=hid (fun w1 (h:Kept w w1)=>WS b4 _ s.ag w1 (I.kept kU.kept h));have FN:=hid (fun w1 (h:Kept w w1)=>(Kw aj).kept h);obtain⟨cY,fw,rfl,-⟩:=id aj;obtain⟨cU,cW,rfl,-⟩:=id I;obtain⟨jU,hP,rfl,W4,Eo,pY⟩:=id U;obtain⟨pE,os,rfl,J,ah⟩:=pY (by omega);have cD:=hid (fun g w1 (h:Kept w w1) (bM:jC w1 g 0 s.ag)=>adY _ _ g 0 s.ag w1 ((cH.take U (Nat.le_of_lt fP)).kept sA.kept h) bM);unfold gW at cv ch cD;obtain⟨⟨t0,iA⟩,⟨t1,UJ⟩,⟨_,t2,bC⟩,⟨_,t3,b'⟩,⟨_,t4,iU⟩⟩:=ah i _ aE;have uO:=hid (fun w1=>HX s.ag iA w1);obtain⟨dS,gP,rfl,hcI,hlI,Yz⟩:=id bC;obtain⟨gJ,x8,rfl,hcD,hlD,Al⟩:=id b';obtain⟨jy,ni,rfl,hcR,B',lS⟩:=id iU;have M':=hid (fun (j:Nat) (f:lE) w1 (h:Kept w w1) (aB:s.ins[j]?=some f) (bO:f.ag.size≤140737488355328)=>U7 (.slice cY l.bm.length fw) (.slice cU l.tb.length cW) (.slice (some ⟨pE,os,none⟩) l.sc.length hP) (.slice dS j gP) aR l.ms f (s.ins.take j) [] _ _ _ _ _ _ rfl rfl w1 (FN.out w1 h) ((cH.take bC (Nat.le_of_lt (b8 aB).1)).kept fL.kept h) ⟨none,0,rfl,by simp,by simp,fun h=>absurd h (by simp)⟩ bO);have k':=hid (fun (j:Nat) (f:lE) w1 (h:Kept w w1) (aB:s.ds[j]?=some f) (bO:f.ag.size≤140737488355328)=>U7 (.slice cY l.bm.length fw) (.slice cU l.tb.length cW) (.slice (some ⟨pE,os,none⟩) l.sc.length hP) (.slice dS s.ins.length gP) (.slice gJ j x8) l.ms f s.ins (s.ds.take j) _ _ _ _ _ _ rfl rfl w1 (FN.out w1 h) (bC.kept fL.kept h) ((cH.take b' (Nat.le_of_lt (b8 aB).1)).kept fL.kept h) bO);have zj:=hid (fun (iM:jl) (sgv:Value) (j:Nat) (r:bf) w1 (h:Kept w w1) (bj:nO w1 sgv iM) (aB:s.rs[j]?=some r)=>adg _ _ _ sgv s iM j r w1 (bC.kept fL.kept h) (b'.kept fL.kept h) (iU.kept mv.kept h) bj aB);have sr:=hid (fun (aw:pB s.rs) (aA:s.ds.length≤1000) (d:Int) w1 (h:Kept w w1)=>IH _ s d w1 ⟨_,_,_,rfl,bC.kept fL.kept h,b'.kept fL.kept h,iU.kept mv.kept h⟩ aw aA);unfold jo at M' k' zj;unfold p6 at sr;obtain⟨Q,cJ⟩:∃Q,Q=oh l i s:=⟨_,rfl⟩;rw[←cJ];have bz:=hid cJ;have dX:=hid (fun (c:Int) (ah:c≠0) (h:¬oh l i s)=>(show c=0↔Q from⟨fun e=>absurd e ah,fun q=>absurd (bz.out▸q) h⟩));unfold ed at t0 t1 t2 t3 t4;have rR:(i:Int)<l.sc.length:=by omega
 have Ci:(i:Int)≤hP:=by omega
 have hi6:(i:Int)≤8796093022208:=by omega
 have bI:=hid ah;have HXI:=hid Yz;have Bn:=hid Al;have rj:=hid lS;generalize kf:s.ag=ag at*;generalize lP:s.ms=gv at*;generalize HH:s.ins.length=b1 at*;generalize yo:s.ds.length=cS at*;generalize l':s.rs.length=c' at*;generalize lR:l.sc.length=aaa at*;generalize l.bm.length=dN at*;generalize l.tb.length=dh at*;have kQ:=hid kf;have qg:=hid lP;have wm:=hid HH;have iE:=hid yo;have kR:=hid l';have n':=hid lR;have ga:=hid iA;clear aj I U bC b' iU pY ah cJ Yz Al lS HH yo l' kf lP lR iA;go_enter func63,ntmps63
 go_upto_region 1 with fail
 have aS:=ao.new w 26 #[.slice cY dN fw,.slice cU dh cW,.slice (some ⟨pE,os,none⟩) aaa hP];have bB:=(aQ w).alloc (.cells #[.slice cY dN fw,.slice cU dh cW,.slice (some ⟨pE,os,none⟩) aaa hP] 26);obtain⟨aC,a7⟩:=aS.p;have e3:=bB.ad J t0;have ee:=bB.ad J t1;have fW:=bB.ad J t2;have mS:=bB.ad J t3;have td:=bB.ad J t4;have rI:=bd J bB.size;clear bB aS t0 t1 t2 t3 t4;go_upto_region 2 with fail
 generalize ar:(w.alloc _).alloc _=W at*;obtain⟨aW,aS,aT⟩:=Kept.a6 ar;clear ar;have e2:(w.alloc (.cells #[.slice cY dN fw,.slice cU dh cW,.slice (some ⟨pE,os,none⟩) aaa hP] 26)).heap.size=w.heap.size+1:=by simp
 try rw[e2]
 clear aC a7 e3 ee fW mS td rI e2;have dD:=hid (fun w1 (h:Kept W w1)=>aS.kept h);have dr:=hid (fun w1 (h:Kept W w1)=>aT.kept h);have bk:=hid (fun w1 (h:Kept W w1)=>jC.kept (s:=ag) (g:=w.heap.size+1) (o:=0) ⟨aT.lt,aT.cell 0⟩ h);obtain⟨aC,a7⟩:=aS.p;obtain⟨aM,bx⟩:=aT.p;clear aS aT;go_upto_region 3 with fail
 go_cut [8] (fun z bt=>∃q:Bool,z= .bool q∧(q=false↔eS ag (l.bm.map (·.ag))=false∧eS ag (l.tb.map (·.ag))=false∧eS ag ((l.sc.take i).map (·.ag))=false)∧Kept W bt)
 case first=>
  cases jJ:eS ag (l.bm.map (·.ag))
  case true=>
   rw[jJ]at cv;go_wp2_with (go_at_call 61;refine (cv.out _ aW).mono ?_;rintro az w1 ⟨rfl,ak⟩)
   go_meet;exact⟨_,rfl,by rw[jJ];simp,ak⟩
  case false=>
  cases jK:eS ag (l.tb.map (·.ag))
  case true=>
   rw[jJ]at cv;rw[jK]at ch;go_wp2_with (first|(go_at_call 61;refine (cv.out _ aW).mono ?_;rintro az w1 ⟨rfl,ak⟩;obtain⟨cx,gQ⟩:=Kept.cells ak;have cb:=ak.size;(try simp at cb))|(go_at_call 62;refine (ch.out _ (aW.trans ak)).mono ?_;rintro az w2 ⟨rfl,a'⟩))
   go_meet;exact⟨_,rfl,by rw[jJ,jK];simp,ak.trans a'⟩
  case false=>
   rw[jJ]at cv;rw[jK]at ch;generalize eS ag ((l.sc.take i).map (·.ag))=cK at*;go_wp2_with (first|(go_at_call 61;refine (cv.out _ aW).mono ?_;rintro az w1 ⟨rfl,ak⟩;obtain⟨cx,gQ⟩:=Kept.cells ak;have cb:=ak.size;(try simp at cb))|(go_at_call 62;refine (ch.out _ (aW.trans ak)).mono ?_;rintro az w2 ⟨rfl,a'⟩;obtain⟨fE,nY⟩:=Kept.cells a';have eu:=a'.size;(try simp at eu))|(go_at_call 92;refine (cD.out _ _ ((aW.trans ak).trans a') (bk.out _ (ak.trans a'))).mono ?_;rintro az cw ⟨rfl,bw⟩))
   go_meet;exact⟨cK,rfl,by rw[jJ,jK];simp,(ak.trans a').trans bw⟩
 case rest=>
 obtain⟨q,rfl,HO,ak⟩:=hcut;have mZ:=hid HO;clear HO;generalize wc=ct at*;have sv:=aW.trans ak;clear aC a7 aM bx cv ch cD;have d1:=(dD.out _ ak).cell;have m1:=(dD.out _ ak).lt;have d2:=(dr.out _ ak).cell;have m2:=(dr.out _ ak).lt
 cases nu:lr (L ag)
 case false=>
  have au:=hid (dX.out 2 (by decide) (fun h=>by have:=h.id;rw[kQ.out,nu]at this;cases this));rw[nu]at uO;go_wp2_with (go_at_call 60;refine (uO.out _).mono ?_;rintro az w2 ⟨rfl,rfl⟩)
  exact bodyPost_ret (v:= .tuple #[.int .i64 (2),()]) (by simp[results,results63,go_sem]) rfl (lK.mk au.out (by decide) (by decide) sv)
 case true=>
 rw[nu]at uO;go_upto_region 6 with (go_at_call 60;refine (uO.out _).mono ?_;rintro az w2 ⟨rfl,rfl⟩)
 clear uO
 cases q
 case true=>
  have au:=hid (dX.out 7 (by decide) (fun h=>absurd (mZ.out.2 (by rw[←kQ.out];exact⟨h.ne,h.ik,h.yG⟩)) (by decide)));go_wp2_with fail
  exact bodyPost_ret (v:= .tuple #[.int .i64 (7),()]) (by simp[results,results63,go_sem]) rfl (lK.mk au.out (by decide) (by decide) sv)
 case false=>
 have NN:=hid (mZ.out.1 rfl);clear mZ;go_upto_region 8 with fail
 go_cut [52] (fun z bt=>∃q:Bool,z= .bool q∧Kept ct bt∧(q=false↔(gv= -1∨(0≤gv∧gv<i∧∀t,l.sc[gv.toNat]?=some t→t.ms= -1))))
 case first=>
  by_cases hp:gv= -1
  ·have ma:(gv != -1)=false:=by simpa using hp
   have aV:Hid (gv= -1∨(0≤gv∧gv<i∧∀t,l.sc[gv.toNat]?=some t→t.ms= -1)):=hid (Or.inl hp);clear hp;go_wp2_with fail
   go_meet;exact⟨false,rfl,aQ _,fun _=>aV.out,fun _=>rfl⟩
  have ma:(gv != -1)=true:=by simpa using hp
  by_cases Ey:gv<0
  ·have aV:Hid (¬(gv= -1∨(0≤gv∧gv<i∧∀t,l.sc[gv.toNat]?=some t→t.ms= -1))):=hid (fun h=>by omega);clear hp;go_wp2_with fail
   go_meet;exact⟨true,rfl,aQ _,(fun h=>by cases h),fun h=>absurd h aV.out⟩
  by_cases Qh:(i:Int)≤gv
  ·have aV:Hid (¬(gv= -1∨(0≤gv∧gv<i∧∀t,l.sc[gv.toNat]?=some t→t.ms= -1))):=hid (fun h=>by omega);clear hp;go_wp2_with fail
   go_meet;exact⟨true,rfl,aQ _,(fun h=>by cases h),fun h=>absurd h aV.out⟩
  obtain⟨k,aa⟩:∃k:Nat,gv=k:=⟨gv.toNat,by omega⟩;have j8:k<l.sc.length:=by have:=n'.out;omega
  have ai:l.sc[k]?=some l.sc[k]:=a8 j8;obtain⟨-,⟨e6,-⟩,-⟩:=bI.out k _ ai;unfold ed at e6;have oQ:Hid ((gv= -1∨(0≤gv∧gv<i∧∀t,l.sc[gv.toNat]?=some t→t.ms= -1))↔l.sc[k].ms= -1):=hid (by
   rw[aa,Int.toNat_natCast,ai];simp;omega)
  generalize l.sc[k].ms=pm at*;have rI:=bd J sv.size;replace e6:=sv.ad J e6;rw[aa]at ma Ey Qh d2;have jI:(k:Int)<i:=by omega
  clear hp ai;by_cases av:pm= -1
  ·have pO:(pm != -1)=false:=by simpa using av
   have aV:Hid (gv= -1∨(0≤gv∧gv<i∧∀t,l.sc[gv.toNat]?=some t→t.ms= -1)):=hid (oQ.out.2 av);clear av oQ;go_wp2_with fail
   go_meet;exact⟨false,rfl,aQ _,fun _=>aV.out,fun _=>rfl⟩
  ·have pO:(pm != -1)=true:=by simpa using av
   have aV:Hid (¬(gv= -1∨(0≤gv∧gv<i∧∀t,l.sc[gv.toNat]?=some t→t.ms= -1))):=hid (fun h=>av (oQ.out.1 h));clear av oQ;go_wp2_with fail
   go_meet;exact⟨true,rfl,aQ _,(fun h=>by cases h),fun h=>absurd h aV.out⟩
 case rest=>
 obtain⟨p9,rfl,a',Ql⟩:=hcut;have NC:=hid Ql;clear Ql;generalize wc=e8 at*;have F':=sv.trans a';have Cz:=ak.trans a';clear d1 m1 d2 m2;have d1:=(dD.out _ Cz).cell;have m1:=(dD.out _ Cz).lt;have d2:=(dr.out _ Cz).cell;have m2:=(dr.out _ Cz).lt
 cases p9
 case true=>
  have au:=hid (dX.out 6 (by decide) (fun h=>absurd (NC.out.2 (by have:=h.ms;rwa [qg.out]at this)) (by decide)));go_wp2_with fail
  exact bodyPost_ret (v:= .tuple #[.int .i64 (6),()]) (by simp[results,results63,go_sem]) rfl (lK.mk au.out (by decide) (by decide) F')
 case false=>
 have HM5:=hid (NC.out.1 rfl);clear NC;by_cases KD:12<b1
 ·have aeF:(12:Int)<b1:=by omega
  have au:=hid (dX.out 4 (by decide) (fun h=>by have:=h.i12;rw[wm.out]at this;omega));clear KD;go_wp2_with fail
  exact bodyPost_ret (v:= .tuple #[.int .i64 (4),.int .i64 (112)]) (by simp[results,results63,go_sem]) rfl (lK.mk au.out (by decide) (by decide) F')
 have aeF:¬((12:Int)<b1):=by omega
 by_cases VT:12<cS
 ·have aeG:(12:Int)<cS:=by omega
  have au:=hid (dX.out 4 (by decide) (fun h=>by have:=h.d12;rw[iE.out]at this;omega));clear KD VT;go_wp2_with fail
  exact bodyPost_ret (v:= .tuple #[.int .i64 (4),.int .i64 (212)]) (by simp[results,results63,go_sem]) rfl (lK.mk au.out (by decide) (by decide) F')
 have aeG:¬((12:Int)<cS):=by omega
 have H12:=hid (show b1≤12 by omega);have I3:=hid (show cS≤12 by omega);have dD:=hid (fun w1 (h:Kept e8 w1)=>dD.out _ (Cz.trans h));have dr:=hid (fun w1 (h:Kept e8 w1)=>dr.out _ (Cz.trans h));have la:=hid F';clear KD VT ak a' Cz aW sv F' bk;go_wp2_with fail
 clear d1 m1 d2 m2;go_loopw [89] (fun z wr=>∃j:Nat,z= .int .i64 j∧j≤b1∧Kept e8 wr∧∀k f,k<j→s.ins[k]?=some f→po l.ms f (s.ins.take k) []) (fun z _=>b1-(intOf z).toNat)
 case atStart=>exact⟨0,rfl,Nat.zero_le _,aQ _,fun _ _ h=>absurd h (Nat.not_lt_zero _)⟩
 case round=>
  obtain⟨j,rfl,gu,ab,j7⟩:=hrel;have cB:=hid j7;clear j7;have az:=(dD.out _ ab).cell;have m1:=(dD.out _ ab).lt;have a6:=(dr.out _ ab).cell;have m2:=(dr.out _ ab).lt;by_cases aD:j<b1
  ·have e4:s.ins[j]?=some (s.ins[j]'(by rw[wm.out];exact aD)):=a8 _;obtain⟨b,off,rfl,jt,ah⟩:=HXI.out (by omega);obtain⟨⟨t0,jw⟩,⟨t1,-⟩,⟨t2,-⟩⟩:=ah j _ e4;generalize sT:s.ins[j]'(by rw[wm.out];exact aD)=f at*;have jX:=hid e4;unfold ed at t0 t1 t2;have bu:=la.out.trans ab;replace t0:=bu.ad jt t0;replace t1:=bu.ad jt t1;replace t2:=bu.ad jt t2;have oW:=bd jt bu.size;have hE:(j:Int)<b1:=by omega
   have w7:(j:Int)≤gP:=by omega
   have pr:=hid (fun w1 (h:Kept wr w1)=>M'.out j f w1 (bu.trans h) e4 jw);have fX:=hid bu;have FK:=hid (fun w1 (h:Kept wr w1)=>dD.out _ (ab.trans h));have FL:=hid (fun w1 (h:Kept wr w1)=>dr.out _ (ab.trans h));clear e4 sT ah bu;go_upto_region 17 with fail
   generalize ar:wr.alloc _=V at*;obtain⟨bX,bU⟩:=Kept.az ar;clear ar;have jk:=hid bX;clear az m1 a6 m2 t0 t1 t2 oW;generalize wr.heap.size=g3 at*;clear bX;go_cut [11] (fun t bt=>∃c:Int,t= .int .i64 c∧(c=0↔po l.ms f (s.ins.take j) [])∧Kept V bt)
   case first=>
    have ej:=hid (show∀X,Kept V X→(Kept V X∧X.cell? ⟨w.heap.size,0,none⟩=some (.slice cY dN fw)∧X.cell? ⟨w.heap.size,1,none⟩=some (.slice cU dh cW)∧X.cell? ⟨w.heap.size,2,none⟩=some (.slice (some ⟨pE,os,none⟩) aaa hP)∧X.cell? ⟨w.heap.size+1,2,none⟩=some (.slice (some ⟨b,off,none⟩) b1 gP)∧X.cell? ⟨g3,0,none⟩=some (.string f.ag)∧X.cell? ⟨g3,1,none⟩=some (.int .i64 f.k)∧X.cell? ⟨g3,2,none⟩=some (.int .i64 f.e))from fun X h=>by
     have cr:=FK.out _ (jk.out.trans h);have c2:=FL.out _ (jk.out.trans h);exact⟨h,cr.cell 0,cr.cell 1,cr.cell 2,c2.cell 2,(bU.kept h).cell 0,(bU.kept h).cell 1,(bU.kept h).cell 2⟩)
    have lw3:=bU.lt;have Zd:=(FL.out _ jk.out).lt;have lw1:=(FK.out _ jk.out).lt;obtain⟨-,z0,e6,z2,z3,z4,z5,y2⟩:=ej.out V (aQ _);clear bU;go_region_held3 (fun X=>Kept V X∧X.cell? ⟨w.heap.size,0,none⟩=some (.slice cY dN fw)∧X.cell? ⟨w.heap.size,1,none⟩=some (.slice cU dh cW)∧X.cell? ⟨w.heap.size,2,none⟩=some (.slice (some ⟨pE,os,none⟩) aaa hP)∧X.cell? ⟨w.heap.size+1,2,none⟩=some (.slice (some ⟨b,off,none⟩) b1 gP)∧X.cell? ⟨g3,0,none⟩=some (.string f.ag)∧X.cell? ⟨g3,1,none⟩=some (.int .i64 f.k)∧X.cell? ⟨g3,2,none⟩=some (.int .i64 f.e))
     ((refine ej.out _ ?_;(with_reducible repeat (first|exact .refl _|assumption|refine .drew ?_|refine .alloc ?_ _|refine .setCell ?_ (by simp only;omega) _|refine .trans ?_ ‹Kept _ _›))))
     ((go_at_call 94;refine (pr.out _ (jk.out.trans ?_)).mono ?_;(·(with_reducible repeat (first|exact .refl _|assumption|refine .drew ?_|refine .alloc ?_ _|refine .setCell ?_ (by simp only;omega) _|refine .trans ?_ ‹Kept _ _›)));rintro e eA ⟨c,rfl,lM,cG⟩;have ir:=hid lM;clear lM;have tF:Kept V eA:=(by (with_reducible repeat (first|exact .refl _|assumption|refine .drew ?_|refine .alloc ?_ _|refine .setCell ?_ (by simp only;omega) _|refine .trans ?_ ‹Kept _ _›)))))
    rename_i hHeld;clear hHeld;go_wp2_with fail
    go_meet;exact⟨c,rfl,ir.out,tF⟩
   case rest=>
   obtain⟨c,rfl,lM,cG⟩:=hcut;have ir:=hid lM;have eO:=hid (jk.out.trans cG);clear lM pr bU;generalize wc=X at*;by_cases fT:c=0
   ·have fF:=ir.out.1 fT;subst fT;have hc:=hid (show∀k f,k<j+1→s.ins[k]?=some f→po l.ms f (s.ins.take k) []from fun k qC aa hm=>by
     rcases Nat.lt_succ_iff_lt_or_eq.1 aa with h|rfl
     ·exact cB.out k qC h hm
     ·have he:=jX.out.symm.trans hm
      cases he;exact fF)
    clear fF ir;go_wp2_with fail
    go_roundw
    case rel=>exact⟨j+1,by go_num,aD,ab.trans eO.out,hc.out⟩
    case measure=>simp[intOf];omega
   ·have hh:(c !=0)=true:=by simpa using fT
    have au:=hid (dX.out c fT fun h=>fT (ir.out.2 (h.ins j f jX.out)));have gB: -9223372036854775808≤(100:Int)+j:=by omega
    have l8:(100:Int)+j≤9223372036854775807:=by omega
    clear fT ir;go_wp2_with fail
    exact bodyPost_ret (v:= .tuple #[.int .i64 (c),.int .i64 (100+j)]) (by simp[results,results63,go_sem]) rfl (lK.mk au.out gB l8 (fX.out.trans eO.out))
  obtain rfl:b1=j:=by omega
  have hE:¬((b1:Int)<b1):=by omega
  have abV:=hid (show∀k f,s.ins[k]?=some f→po l.ms f (s.ins.take k) []from fun k f hm=>cB.out k f (by rw[←wm.out];exact (b8 hm).1) hm);clear cB M';go_wp2_with fail
  clear az m1 a6 m2;go_loopw [110] (fun z wr=>∃j:Nat,z= .int .i64 j∧j≤cS∧Kept e8 wr∧∀k f,k<j→s.ds[k]?=some f→po l.ms f s.ins (s.ds.take k)) (fun z _=>cS-(intOf z).toNat)
  case atStart=>exact⟨0,rfl,Nat.zero_le _,ab,fun _ _ h=>absurd h (Nat.not_lt_zero _)⟩
  case round=>
   obtain⟨j,rfl,gu,ab,j7⟩:=hrel;have cB:=hid j7;clear j7;have az:=(dD.out _ ab).cell;have m1:=(dD.out _ ab).lt;have a6:=(dr.out _ ab).cell;have m2:=(dr.out _ ab).lt;by_cases aD:j<cS
   ·have e4:s.ds[j]?=some (s.ds[j]'(by rw[iE.out];exact aD)):=a8 _;obtain⟨b,off,rfl,jt,ah⟩:=Bn.out (by omega);obtain⟨⟨t0,jw⟩,⟨t1,-⟩,⟨t2,-⟩⟩:=ah j _ e4;generalize sT:s.ds[j]'(by rw[iE.out];exact aD)=f at*;have jX:=hid e4;unfold ed at t0 t1 t2;have bu:=la.out.trans ab;replace t0:=bu.ad jt t0;replace t1:=bu.ad jt t1;replace t2:=bu.ad jt t2;have oW:=bd jt bu.size;have hE:(j:Int)<cS:=by omega
    have w7:(j:Int)≤x8:=by omega
    have pr:=hid (fun w1 (h:Kept wr w1)=>k'.out j f w1 (bu.trans h) e4 jw);have fX:=hid bu;have FK:=hid (fun w1 (h:Kept wr w1)=>dD.out _ (ab.trans h));have FL:=hid (fun w1 (h:Kept wr w1)=>dr.out _ (ab.trans h));clear e4 sT ah bu;go_upto_region 24 with fail
    generalize ar:wr.alloc _=V at*;obtain⟨bX,bU⟩:=Kept.az ar;clear ar;have jk:=hid bX;clear az m1 a6 m2 t0 t1 t2 oW;generalize wr.heap.size=g3 at*;clear bX;go_cut [14] (fun t bt=>∃c:Int,t= .int .i64 c∧(c=0↔po l.ms f s.ins (s.ds.take j))∧Kept V bt)
    case first=>
     have ej:=hid (show∀X,Kept V X→(Kept V X∧X.cell? ⟨w.heap.size,0,none⟩=some (.slice cY dN fw)∧X.cell? ⟨w.heap.size,1,none⟩=some (.slice cU dh cW)∧X.cell? ⟨w.heap.size,2,none⟩=some (.slice (some ⟨pE,os,none⟩) aaa hP)∧X.cell? ⟨w.heap.size+1,2,none⟩=some (.slice dS b1 gP)∧X.cell? ⟨w.heap.size+1,3,none⟩=some (.slice (some ⟨b,off,none⟩) cS x8)∧X.cell? ⟨g3,0,none⟩=some (.string f.ag)∧X.cell? ⟨g3,1,none⟩=some (.int .i64 f.k)∧X.cell? ⟨g3,2,none⟩=some (.int .i64 f.e))from fun X h=>by
      have cr:=FK.out _ (jk.out.trans h);have c2:=FL.out _ (jk.out.trans h);exact⟨h,cr.cell 0,cr.cell 1,cr.cell 2,c2.cell 2,c2.cell 3,(bU.kept h).cell 0,(bU.kept h).cell 1,(bU.kept h).cell 2⟩)
     have lw3:=bU.lt;have Zd:=(FL.out _ jk.out).lt;have lw1:=(FK.out _ jk.out).lt;obtain⟨-,z0,e6,z2,z3,z4,z5,y2,Fx⟩:=ej.out V (aQ _);clear bU;go_region_held3 (fun X=>Kept V X∧X.cell? ⟨w.heap.size,0,none⟩=some (.slice cY dN fw)∧X.cell? ⟨w.heap.size,1,none⟩=some (.slice cU dh cW)∧X.cell? ⟨w.heap.size,2,none⟩=some (.slice (some ⟨pE,os,none⟩) aaa hP)∧X.cell? ⟨w.heap.size+1,2,none⟩=some (.slice dS b1 gP)∧X.cell? ⟨w.heap.size+1,3,none⟩=some (.slice (some ⟨b,off,none⟩) cS x8)∧X.cell? ⟨g3,0,none⟩=some (.string f.ag)∧X.cell? ⟨g3,1,none⟩=some (.int .i64 f.k)∧X.cell? ⟨g3,2,none⟩=some (.int .i64 f.e))
      ((refine ej.out _ ?_;(with_reducible repeat (first|exact .refl _|assumption|refine .drew ?_|refine .alloc ?_ _|refine .setCell ?_ (by simp only;omega) _|refine .trans ?_ ‹Kept _ _›))))
      ((go_at_call 94;refine (pr.out _ (jk.out.trans ?_)).mono ?_;(·(with_reducible repeat (first|exact .refl _|assumption|refine .drew ?_|refine .alloc ?_ _|refine .setCell ?_ (by simp only;omega) _|refine .trans ?_ ‹Kept _ _›)));rintro e eA ⟨c,rfl,lM,cG⟩;have ir:=hid lM;clear lM;have tF:Kept V eA:=(by (with_reducible repeat (first|exact .refl _|assumption|refine .drew ?_|refine .alloc ?_ _|refine .setCell ?_ (by simp only;omega) _|refine .trans ?_ ‹Kept _ _›)))))
     rename_i hHeld;clear hHeld;go_wp2_with fail
     go_meet;exact⟨c,rfl,ir.out,tF⟩
    case rest=>
    obtain⟨c,rfl,lM,cG⟩:=hcut;have ir:=hid lM;have eO:=hid (jk.out.trans cG);clear lM pr bU;generalize wc=X at*;by_cases fT:c=0
    ·have fF:=ir.out.1 fT;subst fT;have hc:=hid (show∀k f,k<j+1→s.ds[k]?=some f→po l.ms f s.ins (s.ds.take k)from fun k qC aa hm=>by
      rcases Nat.lt_succ_iff_lt_or_eq.1 aa with h|rfl
      ·exact cB.out k qC h hm
      ·have he:=jX.out.symm.trans hm
       cases he;exact fF)
     clear fF ir;go_wp2_with fail
     go_roundw
     case rel=>exact⟨j+1,by go_num,aD,ab.trans eO.out,hc.out⟩
     case measure=>simp[intOf];omega
    ·have hh:(c !=0)=true:=by simpa using fT
     have au:=hid (dX.out c fT fun h=>fT (ir.out.2 (h.ds j f jX.out)));have gB: -9223372036854775808≤(200:Int)+j:=by omega
     have l8:(200:Int)+j≤9223372036854775807:=by omega
     clear fT ir;go_wp2_with fail
     exact bodyPost_ret (v:= .tuple #[.int .i64 (c),.int .i64 (200+j)]) (by simp[results,results63,go_sem]) rfl (lK.mk au.out gB l8 (fX.out.trans eO.out))
   obtain rfl:cS=j:=by omega
   have hE:¬((cS:Int)<cS):=by omega
   have abU:=hid (show∀k f,s.ds[k]?=some f→po l.ms f s.ins (s.ds.take k)from fun k f hm=>cB.out k f (by rw[←iE.out];exact (b8 hm).1) hm);clear cB k';go_wp2_with fail
   clear az m1 a6 m2;have az:=(dD.out _ ab).cell;have m1:=(dD.out _ ab).lt;have fX:=hid (la.out.trans ab);have TT:=hid (fun w1 (h:Kept wr w1)=>tB.out w1 (fX.out.trans h));clear tB;go_upto_region 29 with (go_at_call 95;refine (TT.out _ (aQ _)).mono ?_;rintro e cf ⟨b2,rfl,EJ,cQ⟩;have zo:=hid EJ;obtain⟨gL,en,nP,dQ,aoe,iC,cr,qQ,rm,uk,rfl,-⟩:=EJ.form;clear EJ)
   generalize ar:cf.alloc _=Y at*;obtain⟨eY,fB⟩:=Kept.az ar;clear ar;have bX:=cQ.trans eY;generalize cf.heap.size=g5 at*;have zo:=hid (zo.out.kept eY);have xI:=hid (fX.out.trans bX);have TZ:=hid (fun w1 (h:Kept Y w1)=>fB.kept h);have Dp:=hid (fun w1 (h:Kept Y w1)=>dr.out _ (ab.trans (bX.trans h)));generalize X_:xq l s=iM at*;have TS:=hid X_;clear az m1 fB bX eY X_ TT;have a6:=(Dp.out _ (aQ _)).cell;have m2:=(Dp.out _ (aQ _)).lt;go_wp2_with fail
   clear a6 m2;go_loopw [136] (fun z wr=>∃j:Nat,z= .int .i64 j∧j≤c'∧Kept Y wr∧∀k r,k<j→s.rs[k]?=some r→tL iM s k r) (fun z _=>c'-(intOf z).toNat)
   case atStart=>exact⟨0,rfl,Nat.zero_le _,aQ _,fun _ _ h=>absurd h (Nat.not_lt_zero _)⟩
   case round=>
    obtain⟨j,rfl,gu,tU,j7⟩:=hrel;have cB:=hid j7;clear j7;have a6:=(Dp.out _ tU).cell;have m2:=(Dp.out _ tU).lt;by_cases aD:j<c'
    ·have e4:s.rs[j]?=some (s.rs[j]'(by rw[kR.out];exact aD)):=a8 _;generalize sT:s.rs[j]'(by rw[kR.out];exact aD)=x at*;have jX:=hid e4;have hE:(j:Int)<c':=by omega
     have pr:=hid (fun w1 (h:Kept wr w1)=>zj.out iM _ j x w1 (xI.out.trans (tU.trans h)) (zo.out.kept (tU.trans h)) e4);have hr:=(TZ.out _ tU).cell;have m5:=(TZ.out _ tU).lt;clear e4 sT zj;go_upto_region 33 with (go_at_call 96;refine (pr.out _ (aQ _)).mono ?_;rintro e dV ⟨c,rfl,lM,eW⟩;have ir:=hid lM;clear lM)
     clear a6 m2 hr m5 pr;by_cases fT:c=0
     ·have fF:=ir.out.1 fT;subst fT;have hc:=hid (show∀k r,k<j+1→s.rs[k]?=some r→tL iM s k r from fun k qC aa hm=>by
       rcases Nat.lt_succ_iff_lt_or_eq.1 aa with h|rfl
       ·exact cB.out k qC h hm
       ·have he:=jX.out.symm.trans hm
        cases he;exact fF)
      have w7:(j:Int)+1≤9223372036854775807:=by omega
      clear fF ir;go_wp2_with fail
      go_roundw
      case rel=>exact⟨j+1,by go_num,aD,tU.trans eW,hc.out⟩
      case measure=>simp[intOf];omega
     ·have hh:(c !=0)=true:=by simpa using fT
      have au:=hid (dX.out c fT fun h=>fT (ir.out.2 (by have:=h.rs j x jX.out;rwa [TS.out]at this)));have gB: -9223372036854775808≤(300:Int)+j:=by omega
      have l8:(300:Int)+j≤9223372036854775807:=by omega
      clear fT ir;go_wp2_with fail
      exact bodyPost_ret (v:= .tuple #[.int .i64 (c),.int .i64 (300+j)]) (by simp[results,results63,go_sem]) rfl (lK.mk au.out gB l8 (xI.out.trans (tU.trans eW)))
    obtain rfl:c'=j:=by omega
    have hE:¬((c':Int)<c'):=by omega
    have TK:=hid (show∀k r,s.rs[k]?=some r→tL iM s k r from fun k f hm=>cB.out k f (by rw[←kR.out];exact (b8 hm).1) hm);clear cB zj;go_wp2_with fail
    clear a6 m2;have WA:pB s.rs:=aar TK.out (by rw[iE.out];exact I3.out);have NO:=hid (fun (d:Int) w1 h=>sr.out WA (by have:=I3.out;omega) d w1 h);have so:=hid (fun d:Int=>(show (fZ cS s.rs d).length≤cS by
     unfold fZ qY;split
     ·rw[List.length_map];exact Nat.le_trans (List.length_filter_le _ _) (by rw[List.length_range];exact Nat.le_refl _)
     ·exact Nat.zero_le _))
    clear WA sr;go_loopw [152] (fun z wr=>∃j:Nat,z= .int .i64 j∧j≤cS∧Kept Y wr∧∀d:Nat,d<j→(fZ cS s.rs d).contains (d:Int)=false) (fun z _=>cS-(intOf z).toNat)
    case atStart=>exact⟨0,rfl,Nat.zero_le _,tU,fun _ h=>absurd h (Nat.not_lt_zero _)⟩
    case round=>
     obtain⟨j,rfl,gu,tV,j7⟩:=hrel;have cB:=hid j7;clear j7;have a6:=(Dp.out _ tV).cell;have m2:=(Dp.out _ tV).lt;by_cases aD:j<cS
     ·have hE:(j:Int)<cS:=by omega
      have ra:=hid (show (fZ cS s.rs j).length≤2000000 by have:=so.out j;have:=I3.out;omega);have Di:=hid (fun w1 (h:Kept wr w1)=>NO.out j w1 (xI.out.trans (tV.trans h)));generalize Cp:fZ cS s.rs j=T at*;have TU:=hid Cp;clear Cp
      cases au:T.contains (j:Int)
      case true=>
       have Cl:=hid (dX.out 9 (by decide) (fun h=>by have:=h.ac j (by rw[iE.out];exact aD);rw[iE.out,TU.out,au]at this;cases this));have gB: -9223372036854775808≤(200:Int)+j:=by omega
       have l8:(200:Int)+j≤9223372036854775807:=by omega
       go_wp2_with (first|(go_at_call 34;refine (Di.out _ (aQ _)).mono ?_;rintro e dV ⟨u,rfl,da,eW⟩;obtain⟨j1,hj,rfl,-⟩:=fC.at_ da.reads;have dM:=hid da;clear da)|(go_at_call 97;refine (Ve _ dM.out ra.out).mono ?_;rw[au];rintro e jT ⟨rfl,xi⟩))
       exact bodyPost_ret (v:= .tuple #[.int .i64 (9),.int .i64 (200+j)]) (by simp[results,results63,go_sem]) rfl (lK.mk Cl.out gB l8 (xI.out.trans (tV.trans (eW.trans xi))))
      case false=>
       have hc:=hid (show∀d:Nat,d<j+1→(fZ cS s.rs d).contains (d:Int)=false from fun d av=>by
        rcases Nat.lt_succ_iff_lt_or_eq.1 av with h|rfl
        ·exact cB.out d h
        ·rw[TU.out];exact au)
       have w7:(j:Int)+1≤9223372036854775807:=by omega
       go_wp2_with (first|(go_at_call 34;refine (Di.out _ (aQ _)).mono ?_;rintro e dV ⟨u,rfl,da,eW⟩;obtain⟨j1,hj,rfl,-⟩:=fC.at_ da.reads;have dM:=hid da;clear da)|(go_at_call 97;refine (Ve _ dM.out ra.out).mono ?_;rw[au];rintro e jT ⟨rfl,xi⟩))
       go_roundw
       case rel=>exact⟨j+1,by go_num,aD,tV.trans (eW.trans xi),hc.out⟩
       case measure=>simp[intOf];omega
     ·obtain rfl:cS=j:=by omega
      have hE:¬((cS:Int)<cS):=by omega
      have au:=hid (show Q from bz.out▸⟨by rw[kQ.out];exact NN.out.1,by rw[kQ.out];exact NN.out.2.1,by rw[kQ.out];exact NN.out.2.2,by rw[kQ.out];exact nu,by rw[qg.out];exact HM5.out,by rw[wm.out];exact H12.out,by rw[iE.out];exact I3.out,abV.out,abU.out,fun j r h=>by rw[TS.out];exact TK.out j r h,fun d h=>by rw[iE.out]at h⊢;exact cB.out d h⟩);clear a6 m2;go_wp2_with fail
      exact bodyPost_ret (v:= .tuple #[(),()]) (by simp[results,results63,go_sem]) rfl (lK.mk (iff_of_true rfl au.out) (by decide) (by decide) (xI.out.trans tV))
end Go.Proofs.YtobpgndkciofhaaGreatDoor
