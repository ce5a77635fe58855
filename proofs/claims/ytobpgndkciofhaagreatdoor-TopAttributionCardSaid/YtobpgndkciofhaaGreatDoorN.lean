import Derived.Test.YtobpgndkciofhaaGreatDoorM
set_option linter.all false
namespace Go.Proofs.YtobpgndkciofhaaGreatDoor
open Go.RowKit Go.Proofs.Tryz
open Go.Lib (hid)
set_option maxRecDepth 100000
set_option maxHeartbeats 16000000
theorem cH.take {α:Type} {k:Nat} {P:World→Nat→Nat→α→Prop} {w:World} {A:Option Addr} {n c i:Nat} {xs:List α} (h:cH k P w (.slice A n c) xs) (aE:i≤xs.length):cH k P w (.slice A i c) (xs.take i):=by
 obtain⟨nE,gf,he,I,U,af⟩:=h
 cases he;refine⟨A,c,by rw[List.length_take,Nat.min_eq_left aE],by rw[List.length_take];omega,by rw[List.length_take];omega,fun hp=> ?_⟩;rw[List.length_take]at hp;obtain⟨b,off,aK,J,ah⟩:=af (by omega);refine⟨b,off,aK,J,fun j x aB=>ah j x ?_⟩;rw[List.getElem?_take]at aB;split at aB
 ·exact aB
 ·cases aB
theorem adU (cP:List ByteArray) (x:ByteArray):Lib.containsS cP x=eS x cP:=by
 rw[Bool.eq_iff_iff,E7,Lib.containsS_iff]
theorem adW (A:Option Addr) (j n cap:Nat) (xs:List ByteArray) (x:ByteArray) (aB:j≤xs.length) (w:World) (h:qq w (.slice A n cap) xs):Calls prog 79 #[.slice A j cap,x] w (gW (eS x (xs.take j)) w):=by
 by_cases aj:j=0
 ·subst aj;exact (Tryz.slices_Contains_string_empty A cap x w).mono fun _ _ h=>⟨h.1,h.2▸aQ _⟩
 ·obtain⟨nE,gf,he,I,U,af⟩:=h
  cases he;obtain⟨b,off,rfl,J,ah⟩:=af (by omega);refine (Tryz.slices_Contains_string b off j cap xs x w aB (by omega) fun i aE=> ?_).mono fun _ _ h=>⟨?_,h.2▸aQ _⟩
  ·have ai:xs[i]?=some (xs.getD i ByteArray.empty):=by rw[List.getD_eq_getElem?_getD,a8 aE];rfl
   have:=(ah i _ ai).1;rw[Nat.mul_one]at this;exact this
  ·rw[h.1,adU]
def lK (q:Prop) (w:World) (e:Ending) (w':World):Prop:=∃c d:Int,e= .returned (.tuple #[c,d])∧(c=0↔q)∧ -9223372036854775808≤d∧d≤9223372036854775807∧Kept w w'
theorem lK.mk {q:Prop} {w w':World} {c d:Int} (h:c=0↔q) (I: -9223372036854775808≤d) (U:d≤9223372036854775807) (aa:Kept w w'):lK q w (.returned (.tuple #[c,d])) w':=⟨c,d,rfl,h,I,U,aa⟩
structure CX (bm:List mo) (i:Nat) (x:mo):Prop where
 id:lr (L x.ag)=true
 yG:eS x.ag ((bm.take i).map (·.ag))=false
 ei:0<x.mem.length
 aE:x.mem.length≤16
 mem:∀j m,x.mem[j]?=some m→lr (L m)=true∧eS m (x.mem.take j)=false
theorem ade (bT q2:Value) (l:cZ) (i:Nat) (x:mo) (w:World) (bL:gy w bT l) (aE:l.bm[i]?=some x) (c5:qq w q2 x.mem) (ax:x.ag.size≤140737488355328):
  Calls prog 58 #[bT,i,.agg #[x.ag,q2]] w (lK (CX l.bm i x) w):=by
 obtain⟨c_,b4,b2,rfl,aj,I,U⟩:=bL;have fP:=(b8 aE).1;obtain⟨cY,fw,rfl,hcE,hlE,HS⟩:=id aj;obtain⟨be,p5,rfl,-⟩:=HS (by omega);have cv:=hid (fun w1 (h:Kept w w1)=>PM _ _ x.ag w1 ((cH.take aj (Nat.le_of_lt fP)).kept n_.kept h));obtain⟨cU,cW,rfl,-⟩:=id I;obtain⟨jU,hP,rfl,-⟩:=id U;obtain⟨eH,kY,rfl,hcM,hlM,YA⟩:=id c5;have cp:=hid (fun j m (aB:j≤x.mem.length) w1 (h:Kept w w1)=>adW eH j x.mem.length kY x.mem m aB w1 (c5.kept h));have dn:=hid (fun s (ax:s.size≤140737488355328) w1=>HX s ax w1);unfold gW at cv cp;obtain⟨Q,cJ⟩:∃Q,Q=CX l.bm i x:=⟨_,rfl⟩;rw[←cJ];have bz:=hid cJ;have dX:=hid (fun (c:Int) (ah:c≠0) (h:¬CX l.bm i x)=>(show c=0↔Q from⟨fun e=>absurd e ah,fun q=>absurd (bz.out▸q) h⟩));have cD:=hid ax;have HXM:=hid YA;have c6:(i:Int)≤fw:=by omega
 have de:(i:Int)<l.bm.length:=by omega
 have hi6:(i:Int)≤8796093022208:=by omega
 generalize kf:x.ag=ag at*;generalize Af:x.mem.length=ew at*;generalize l.bm.length=dN at*;generalize l.tb.length=dh at*;generalize l.sc.length=aaa at*;have kQ:=hid kf;have qh:=hid Af;clear aj I U c5 HS YA cJ aE kf Af;go_enter func58,ntmps58
 go_upto_region 1 with fail
 generalize ar:(w.alloc _).alloc _=W at*;obtain⟨aW,aS,aT⟩:=Kept.a6 ar;clear ar;have dr:=hid (fun w1 (h:Kept W w1)=>aT.kept h);have dD:=hid (fun w1 (h:Kept W w1)=>aS.kept h);obtain⟨aC,a7⟩:=aS.p;obtain⟨aM,bx⟩:=aT.p;clear aS aT
 cases jJ:lr (L ag)
 case false=>
  have au:=hid (dX.out 2 (by decide) (fun h=>by have:=h.id;rw[kQ.out,jJ]at this;cases this));go_wp2_with (go_at_call 60;refine (dn.out _ cD.out _).mono ?_;rw[jJ];rintro az w1 ⟨rfl,rfl⟩)
  exact bodyPost_ret (v:= .tuple #[.int .i64 2,()]) (by simp[results,results58,go_sem]) rfl (lK.mk au.out (by decide) (by decide) aW)
 go_upto_region 3 with (go_at_call 60;refine (dn.out _ cD.out _).mono ?_;rw[jJ];rintro az w1 ⟨rfl,rfl⟩)
 clear aC a7 aM bx;go_cut [15] (fun z bt=>z= .bool (eS ag ((l.bm.take i).map (·.ag)))∧Kept W bt)
 case first=>
  have ej:=hid (show∀X,Kept W X→(Kept W X∧X.cell? ⟨w.heap.size,0,none⟩=some (.slice (some ⟨be,p5,none⟩) dN fw)∧X.cell? ⟨w.heap.size+1,0,none⟩=some (.string ag))from fun X h=>⟨h,(dD.out _ h).cell 0,(dr.out _ h).cell 0⟩);have Zd:=(dr.out _ (aQ _)).lt;have mr:=hid aW;obtain⟨-,z0,e6⟩:=ej.out W (aQ _);go_region_held3 (fun X=>Kept W X∧X.cell? ⟨w.heap.size,0,none⟩=some (.slice (some ⟨be,p5,none⟩) dN fw)∧X.cell? ⟨w.heap.size+1,0,none⟩=some (.string ag))
   ((refine ej.out _ ?_;(with_reducible repeat (first|exact .refl _|assumption|refine .drew ?_|refine .alloc ?_ _|refine .setCell ?_ (by simp only;omega) _|refine .trans ?_ ‹Kept _ _›))))
   ((go_at_call_of 61 (Value.slice (some ⟨be,p5,none⟩) i fw);refine (cv.out _ (mr.out.trans ?_)).mono ?_;(·(with_reducible repeat (first|exact .refl _|assumption|refine .drew ?_|refine .alloc ?_ _|refine .setCell ?_ (by simp only;omega) _|refine .trans ?_ ‹Kept _ _›)));rintro e eA ⟨rfl,cG⟩;have tF:Kept W eA:=(by (with_reducible repeat (first|exact .refl _|assumption|refine .drew ?_|refine .alloc ?_ _|refine .setCell ?_ (by simp only;omega) _|refine .trans ?_ ‹Kept _ _›)))))
  rename_i hHeld;clear hHeld;go_wp2_with fail
  go_meet;exact⟨by rw[List.map_take],tF⟩
 case rest=>
 obtain⟨rfl,ak⟩:=hcut;generalize wc=w1 at*
 cases jK:eS ag ((l.bm.take i).map (·.ag))
 case true=>
  have au:=hid (dX.out 7 (by decide) (fun h=>by have:=h.yG;rw[kQ.out,jK]at this;cases this));clear cv;go_wp2_with fail
  exact bodyPost_ret (v:= .tuple #[.int .i64 (7),()]) (by simp[results,results58,go_sem]) rfl (lK.mk au.out (by decide) (by decide) (aW.trans ak))
 go_upto_region 5 with fail
 have bB:=aW.trans ak;have d2:=(dr.out _ ak).cell;have m2:=(dr.out _ ak).lt;have ji:=hid (fun w2 (h:Kept w1 w2)=>dr.out _ (ak.trans h));clear cv;by_cases lQ:ew=0
 ·have au:=hid (dX.out 5 (by decide) (fun h=>by have:=h.ei;rw[qh.out]at this;omega));subst lQ;go_wp2_with fail
  exact bodyPost_ret (v:= .tuple #[.int .i64 (5),()]) (by simp[results,results58,go_sem]) rfl (lK.mk au.out (by decide) (by decide) bB)
 have alX:((ew:Int)==0)=false:=by simpa using lQ
 by_cases j9:16<ew
 ·have afb:(16:Int)<ew:=by omega
  have au:=hid (dX.out 4 (by decide) (fun h=>by have:=h.aE;rw[qh.out]at this;omega));clear lQ j9;go_wp2_with fail
  exact bodyPost_ret (v:= .tuple #[.int .i64 (4),.int .i64 (116)]) (by simp[results,results58,go_sem]) rfl (lK.mk au.out (by decide) (by decide) bB)
 have afb:¬((16:Int)<ew):=by omega
 obtain⟨b,off,rfl,J,ah⟩:=HXM.out (by omega);have bI:=hid ah;have rI:=bd J bB.size;have Px:=hid j9;have yg:=hid lQ;clear ah j9 lQ;go_wp2_with fail
 go_loopw [36] (fun z wr=>∃j:Nat,z= .int .i64 j∧j≤ew∧Kept w1 wr∧∀k m,k<j→x.mem[k]?=some m→lr (L m)=true∧eS m (x.mem.take k)=false) (fun z _=>ew-(intOf z).toNat)
 case atStart=>exact⟨0,rfl,Nat.zero_le _,aQ _,fun _ _ h=>absurd h (Nat.not_lt_zero _)⟩
 case round=>
  obtain⟨j,rfl,gu,ab,j7⟩:=hrel;have cB:=hid j7;clear j7;by_cases aD:j<ew
  ·have e4:x.mem[j]?=some (x.mem[j]'(by rw[qh.out];exact aD)):=a8 _;obtain⟨wN,am9⟩:=bI.out j _ e4;generalize sT:x.mem[j]'(by rw[qh.out];exact aD)=m at*;have jX:=hid e4;unfold ed at wN;rw[Nat.mul_one]at wN;have bu:=bB.trans ab;replace wN:=bu.ad J wN;have oW:=bd J bu.size;have a6:=(ji.out _ ab).cell;have f2:=(ji.out _ ab).lt;have hE:(j:Int)<ew:=by omega
   have w7:(j:Int)≤kY:=by omega
   have Ub:=hid am9;have fX:=hid bu;clear e4 sT d2 m2 bu am9
   cases ED:lr (L m)
   case false=>
    have au:=hid (dX.out 2 (by decide) (fun h=>by have:=(h.mem j m jX.out).1;rw[ED]at this;cases this));have gB: -9223372036854775808≤(100:Int)+j:=by omega
    have Py:=Px.out;have l8:(100:Int)+j≤9223372036854775807:=by omega
    clear Py;go_wp2_with (go_at_call 60;refine (dn.out _ Ub.out _).mono ?_;rw[ED];rintro az cw ⟨rfl,rfl⟩)
    exact bodyPost_ret (v:= .tuple #[.int .i64 (2),.int .i64 (100+j)]) (by simp[results,results58,go_sem]) rfl (lK.mk au.out gB l8 fX.out)
   go_upto_region 14 with (go_at_call 60;refine (dn.out _ Ub.out _).mono ?_;rw[ED];rintro az cw ⟨rfl,rfl⟩)
   have Jk:=hid (fun eA (h:Kept w eA)=>cp.out j m (Nat.le_of_lt aD) eA h);clear cp
   cases nu:eS m (x.mem.take j)
   case true=>
    have au:=hid (dX.out 7 (by decide) (fun h=>by have:=(h.mem j m jX.out).2;rw[nu]at this;cases this));have Py:=Px.out;have gB: -9223372036854775808≤(100:Int)+j:=by omega
    have l8:(100:Int)+j≤9223372036854775807:=by omega
    clear Py;rw[nu]at Jk;go_wp2_with (go_at_call 79;refine (Jk.out _ fX.out).mono ?_;rintro az eA ⟨rfl,cG⟩)
    exact bodyPost_ret (v:= .tuple #[.int .i64 (7),.int .i64 (100+j)]) (by simp[results,results58,go_sem]) rfl (lK.mk au.out gB l8 (fX.out.trans cG))
   rw[nu]at Jk;have hc:=hid (show∀k m,k<j+1→x.mem[k]?=some m→lr (L m)=true∧eS m (x.mem.take k)=false from fun k k2 aa hm=>by
    rcases Nat.lt_succ_iff_lt_or_eq.1 aa with h|rfl
    ·exact cB.out k k2 h hm
    ·have he:=jX.out.symm.trans hm
     cases he;exact⟨ED,nu⟩)
   clear ED nu;go_wp2_with (go_at_call 79;refine (Jk.out _ fX.out).mono ?_;rintro az eA ⟨rfl,cG⟩)
   go_roundw
   case rel=>exact⟨j+1,by go_num,aD,ab.trans cG,hc.out⟩
   case measure=>simp[intOf];omega
  ·obtain rfl:j=ew:=by omega
   have hE:¬((j:Int)<j):=by omega
   have au:=hid (show Q from bz.out▸⟨by rw[kQ.out];exact jJ,by rw[kQ.out];exact jK,by rw[qh.out];have:=yg.out;omega,by rw[qh.out];have:=Px.out;omega,fun k m hm=>cB.out k m (by rw[←qh.out];exact (b8 hm).1) hm⟩);clear d2 m2;go_wp2_with fail
   exact bodyPost_ret (v:= .tuple #[(),()]) (by simp[results,results58,go_sem]) rfl (lK.mk (iff_of_true rfl au.out) (by decide) (by decide) (bB.trans ab))
def k1 (q:Prop) (w:World) (e:Ending) (w':World):Prop:=∃c a b d:Int,e= .returned (.agg #[c,a,b,d])∧(c=0↔q)∧(c=0→a=0∧b=0∧d=0)∧Kept w w'
theorem k1.no {q:Prop} {w w':World} {c a b d:Int} (h:c≠0) (au:¬q) (aa:Kept w w'):k1 q w (.returned (.agg #[c,a,b,d])) w':=⟨c,a,b,d,rfl,iff_of_false h au,fun e=>absurd e h,aa⟩
theorem k1.yes {q:Prop} {w w':World} (au:q) (aa:Kept w w'):k1 q w (.returned (.agg #[(),(),(),()])) w':=⟨0,0,0,0,rfl,iff_of_true rfl au,fun _=>⟨rfl,rfl,rfl⟩,aa⟩
theorem mg {w X:World} {g T:Nat} {a0 cE a2 a3:Value} (B:ao X g T #[a0,cE,a2,a3]) (aa:Kept w X) (ai:w.heap.size≤g) (c a b d:Value):
  ao ((((X.setCell ⟨g,0,none⟩ c).setCell ⟨g,1,none⟩ a).setCell ⟨g,2,none⟩ b).setCell ⟨g,3,none⟩ d) g T #[c,a,b,d]∧Kept w ((((X.setCell ⟨g,0,none⟩ c).setCell ⟨g,1,none⟩ a).setCell ⟨g,2,none⟩ b).setCell ⟨g,3,none⟩ d):=by
 refine⟨?_,?_⟩
 ·have:=(((B.aP 0 c).aP 1 a).aP 2 b).aP 3 d;simpa using this
 ·repeat refine Kept.setCell ?_ (by simp only;omega) _
  exact aa
structure A0 (bm:List mo):Prop where
 aE:bm.length≤8
 all:∀i x,bm[i]?=some x→CX bm i x
theorem adf (bT:Value) (l:cZ) (w:World) (bL:gy w bT l):Calls prog 38 #[bT] w (k1 (A0 l.bm) w):=by
 have tm:=hid (fun (i:Nat) (x:mo) (q2:Value) (w1:World) (h:Kept w w1) (aE:l.bm[i]?=some x) (c5:qq w1 q2 x.mem) (ax:x.ag.size≤140737488355328)=>ade bT q2 l i x w1 (bL.kept h) aE c5 ax);unfold lK at tm;obtain⟨c_,b4,b2,rfl,aj,I,U⟩:=bL;obtain⟨cY,fw,rfl,hcE,hlE,HS⟩:=id aj;obtain⟨cU,cW,rfl,-⟩:=id I;obtain⟨jU,hP,rfl,-⟩:=id U;obtain⟨Q,cJ⟩:∃Q,Q=A0 l.bm:=⟨_,rfl⟩;rw[←cJ];have bz:=hid cJ;have dX:=hid (fun (h:¬A0 l.bm)=>(show¬Q from fun q=>h (bz.out▸q)));have HXE:=hid HS;generalize Eu:l.bm.length=dN at*;generalize l.tb.length=dh at*;generalize l.sc.length=aaa at*;have lF:=hid Eu;clear aj I U HS cJ Eu;go_enter func38,ntmps38
 go_upto_region 1 with fail
 generalize ar:(w.alloc _).alloc _=W at*;obtain⟨aW,aS,aT⟩:=Kept.a6 ar;clear ar;have dD:=hid (fun w1 (h:Kept W w1)=>aS.kept h);have dr:=hid (fun w1 (h:Kept W w1)=>aT.kept h);obtain⟨aC,a7⟩:=aS.p;clear aS aT;by_cases aA:8<dN
 ·have oz:(8:Int)<dN:=by omega
  have au:=hid (dX.out fun h=>by have:=h.aE;rw[lF.out]at this;omega);have bc:=dr.out _ (aQ _);obtain⟨aM,bx,f2⟩:=bc.q;have bq:=hid (mg bc aW (by omega) (.int .i64 4) (.int .i64 1) (.int .i64 8) ());clear aA bc;go_wp2_with fail
  have cu:=bq.out.1.cell;exact bodyPost_ret (v:= .agg #[.int .i64 4,.int .i64 1,.int .i64 8,()]) (by simp[results,results38,go_sem,cu]) rfl (k1.no (by decide) au.out bq.out.2)
 have oz:¬((8:Int)<dN):=by omega
 have bk:=hid aA;clear aA;go_wp2_with fail
 clear aC a7;go_loopw [15] (fun z wr=>∃j:Nat,z= .int .i64 j∧j≤dN∧Kept W wr∧∀k x,k<j→l.bm[k]?=some x→CX l.bm k x) (fun z _=>dN-(intOf z).toNat)
 case atStart=>exact⟨0,rfl,Nat.zero_le _,aQ _,fun _ _ h=>absurd h (Nat.not_lt_zero _)⟩
 case round=>
  obtain⟨j,rfl,gu,ab,j7⟩:=hrel;have cB:=hid j7;clear j7;by_cases aD:j<dN
  ·have e4:l.bm[j]?=some (l.bm[j]'(by rw[lF.out];exact aD)):=a8 _;obtain⟨b,off,rfl,J,ah⟩:=HXE.out (by omega);obtain⟨⟨t0,jw⟩,⟨bW,t1,br⟩⟩:=ah j _ e4;generalize sT:l.bm[j]'(by rw[lF.out];exact aD)=x at*;have jX:=hid e4;unfold ed at t0 t1;have bu:=aW.trans ab;have qg:=hid (br.kept bu);obtain⟨eH,kY,rfl,-⟩:=id br;replace t0:=bu.ad J t0;replace t1:=bu.ad J t1;have oW:=bd J bu.size;have hE:(j:Int)<dN:=by omega
   have pr:=hid (fun w1 (h:Kept wr w1)=>tm.out j x _ w1 (bu.trans h) e4 (qg.out.kept h) jw);have fX:=hid bu;have az:=(dD.out _ ab).cell;have m1:=(dD.out _ ab).lt;have ns:(j:Int)+1≤9223372036854775807:=by have:=bk.out;omega
   generalize x.mem.length=ew at*;generalize amm:x.ag=ag at*;clear e4 sT br ah bu tm;go_upto_region 6 with fail
   have bX:=hid ((aQ wr).alloc (.cells #[ag,.slice eH ew kY] 55));have cX:=ao.new wr 55 #[ag,.slice eH ew kY];have cl:=(dD.out _ ab).alloc (.cells #[ag,.slice eH ew kY] 55);have gs:w.heap.size+1<wr.heap.size:=(dr.out _ ab).lt;clear az m1 t0 t1;generalize wr.alloc (.cells #[ag,.slice eH ew kY] 55)=V at*;generalize wr.heap.size=g3 at*;obtain⟨az,m1⟩:=cl.p;obtain⟨b7,m3⟩:=cX.p;clear cl cX;go_upto_region 7 with (go_at_call 58;refine (pr.out _ bX.out).mono ?_;rintro fh eA ⟨c,d,rfl,lM,gB,l8,cG⟩;have ir:=hid lM;clear lM)
   have eO:=hid (bX.out.trans cG);clear pr az m1 b7 m3;by_cases fT:c=0
   ·have fF:=ir.out.1 fT;subst fT;have hc:=hid (show∀k x,k<j+1→l.bm[k]?=some x→CX l.bm k x from fun k IQ aa hm=>by
     rcases Nat.lt_succ_iff_lt_or_eq.1 aa with h|rfl
     ·exact cB.out k IQ h hm
     ·have he:=jX.out.symm.trans hm
      cases he;exact fF)
    clear fF ir;go_wp2_with fail
    go_roundw
    case rel=>exact⟨j+1,by go_num,aD,ab.trans eO.out,hc.out⟩
    case measure=>simp[intOf];omega
   ·have hh:(c !=0)=true:=by simpa using fT
    have au:=hid (dX.out fun h=>fT (ir.out.2 (h.all j x jX.out)));have C1:=hid fT;have bc:=dr.out _ (ab.trans eO.out);obtain⟨aM,bx,f2⟩:=bc.q;have bq:=hid (mg bc (fX.out.trans eO.out) (by omega) c (.int .i64 1) j d);clear fT bc ir;go_wp2_with fail
    have cu:=bq.out.1.cell;exact bodyPost_ret (v:= .agg #[c,.int .i64 1,j,d]) (by simp[results,results38,go_sem,cu]) rfl (k1.no C1.out au.out bq.out.2)
  ·obtain rfl:j=dN:=by omega
   have hE:¬((j:Int)<j):=by omega
   have au:=hid (show Q from bz.out▸⟨by rw[lF.out];have:=bk.out;omega,fun k x hm=>cB.out k x (by rw[←lF.out];exact (b8 hm).1) hm⟩);have bc:=dr.out _ ab;obtain⟨aM,bx,f2⟩:=bc.q;have bq:=hid (mg bc (aW.trans ab) (by omega) () () () ());clear bc;go_wp2_with fail
   have cu:=bq.out.1.cell;exact bodyPost_ret (v:= .agg #[(),(),(),()]) (by simp[results,results38,go_sem,cu]) rfl (k1.yes au.out bq.out.2)
def xv (a b:Int):Bool:=decide (0≤a)&&(decide (a≤b)&&decide (b≤109573))
theorem akp (a b:Int):(xv a b=false∧a<0)∨(xv a b=false∧0≤a∧b<a)∨(xv a b=false∧0≤a∧a≤b∧109573<b)∨(xv a b=true∧0≤a∧a≤b∧b≤109573):=by
 unfold xv;by_cases I:0≤a<;>by_cases U:a≤b<;>by_cases ae:b≤109573<;>simp[I,U,ae]<;>omega
theorem OU (a b:Int) (w:World):
  Calls prog 81 #[.agg #[a,b]] w fun e w'=>e= .returned (.bool (xv a b))∧Kept w w':=by
 rcases akp a b with⟨h,I⟩|⟨h,I,U⟩|⟨h,I,U,ae⟩|⟨h,I,U,ae⟩
 all_goals
  have aI:=hid h;clear h;go_enter func81,ntmps81
  go_wp2_with fail
  go_ret;exact⟨eD (by first|exact aI.out.symm|(rw[aI.out,decide_eq_true_eq];exact ae)|(rw[aI.out,decide_eq_false_iff_not];omega)),(aQ _).alloc _⟩
def yl (a b:Int):Bool:=xv a b&&decide (a<b)
theorem BZ (a b:Int) (w:World):
  Calls prog 146 #[.agg #[a,b]] w fun e w'=>e= .returned (.bool (yl a b))∧Kept w w':=by
 cases ay:xv a b
 ·have aI:=hid (show yl a b=false by rw[yl,ay];rfl);go_enter func146,ntmps146
  go_wp2_with (go_at_call 81;refine (OU _ _ _).mono ?_;rintro e w' ⟨rfl,aa⟩;rw[ay])
  go_ret;exact⟨eD aI.out.symm,((aQ _).alloc _).trans aa⟩
 ·have aI:=hid (show yl a b=decide (a<b) by rw[yl,ay];rfl);go_enter func146,ntmps146
  go_wp2_with (go_at_call 81;refine (OU _ _ _).mono ?_;rintro e w' ⟨rfl,aa⟩;rw[ay];have PQ:=aa.acY.1;have b5:=PQ 0;have aC:=PQ 1;simp only[List.getElem?_toArray,List.getElem?_cons_zero,List.getElem?_cons_succ]at b5 aC;clear PQ)
  go_ret;exact⟨eD aI.out.symm,((aQ _).alloc _).trans aa⟩
def kG (a b c d:Int):Int×Int×Bool:=if yl a b&&(yl c d&&decide (max a c<min b d))then (max a c,min b d,true)else (0,0,false)
theorem ag9 (a c:Int):(a<c∧max a c=c)∨(c≤a∧max a c=a):=by omega
theorem ag1 (b d:Int):(d<b∧min b d=d)∨(b≤d∧min b d=b):=by omega
theorem af2 (a b c d:Int) (w:World):
  Calls prog 113 #[.agg #[a,b],.agg #[c,d]] w fun e w'=>e= .returned (.tuple #[.agg #[.int .i64 (kG a b c d).1,.int .i64 (kG a b c d).2.1],.bool (kG a b c d).2.2])∧Kept w w':=by
 cases I:yl a b
 ·have aI:=hid (show kG a b c d=(0,0,false) by rw[kG,I];rfl);go_enter func113,ntmps113
  go_wp2_with fail
  refine (BZ _ _ _).mono ?_;rintro e w1 ⟨rfl,ak⟩;rw[I];obtain⟨a_,aS,aT⟩:=ak.BA;have bY:=aS.cell;obtain⟨bc,bx,f2⟩:=aT.q;go_wp2_with fail
  refine bodyPost_ret (v:= .tuple #[.agg #[.int .i64 (kG a b c d).1,.int .i64 (kG a b c d).2.1],.bool (kG a b c d).2.2]) (by rw[aI.out];simp[results,results113,go_sem,bc]) rfl ⟨rfl,?_⟩
  repeat refine Kept.setCell ?_ (by simp only;omega) _
  exact (((aQ _).alloc _).alloc _).alloc _|>.trans ak
 ·cases U:yl c d
  ·have aI:=hid (show kG a b c d=(0,0,false) by rw[kG,I,U];rfl);go_enter func113,ntmps113
   go_wp2_with fail
   refine (BZ _ _ _).mono ?_;rintro e w1 ⟨rfl,ak⟩;rw[I];obtain⟨a_,aS,aT⟩:=ak.BA;have bY:=aS.cell;go_wp2_with fail
   refine (BZ _ _ _).mono ?_;rintro e w2 ⟨rfl,a'⟩;rw[U];clear bY;replace aT:=aT.kept a';obtain⟨bc,bx,f2⟩:=aT.q;go_wp2_with fail
   refine bodyPost_ret (v:= .tuple #[.agg #[.int .i64 (kG a b c d).1,.int .i64 (kG a b c d).2.1],.bool (kG a b c d).2.2]) (by rw[aI.out];simp[results,results113,go_sem,bc]) rfl ⟨rfl,?_⟩
   repeat refine Kept.setCell ?_ (by simp only;omega) _
   exact ((((aQ _).alloc _).alloc _).alloc _|>.trans ak).trans a'
  ·have mY:∀x y,max a c=x→min b d=y→x<y→kG a b c d=(x,y,true):=by
    rintro x y rfl rfl h;rw[kG,I,U,decide_eq_true h];rfl
   have wu:∀x y,max a c=x→min b d=y→¬x<y→kG a b c d=(0,0,false):=by
    rintro x y rfl rfl h;rw[kG,I,U,decide_eq_false h];rfl
   have eB:=hid I;have To:=hid U;clear I U;rcases ag9 a c with⟨az,m1⟩|⟨az,m1⟩<;>rcases ag1 b d with⟨a6,m2⟩|⟨a6,m2⟩
   all_goals
    by_cases ae:max a c<min b d
    ·rw[m1,m2]at ae;have aI:=hid (mY _ _ m1 m2 ae);have Ph:¬(min b d≤max a c):=by omega
     rw[m1,m2]at Ph;have cp:=hid (And.intro m1 m2);clear mY wu m1 m2;go_enter func113,ntmps113
     go_wp2_with fail
     refine (BZ _ _ _).mono ?_;rintro e w1 ⟨rfl,ak⟩;rw[eB.out];obtain⟨a_,aS,aT⟩:=ak.BA;have bY:=aS.cell;go_wp2_with fail
     refine (BZ _ _ _).mono ?_;rintro e w2 ⟨rfl,a'⟩;rw[To.out];clear bY;replace a_:=a_.kept a';replace aS:=aS.kept a';replace aT:=aT.kept a';obtain⟨eP,cA⟩:=a_.p;obtain⟨bY,a7⟩:=aS.p;obtain⟨bc,bx,f2⟩:=aT.q;go_wp2_with fail
     refine bodyPost_ret (v:= .tuple #[.agg #[.int .i64 (kG a b c d).1,.int .i64 (kG a b c d).2.1],.bool (kG a b c d).2.2]) (by rw[aI.out];simp[results,results113,go_sem,bc,bx,cp.out.1,cp.out.2]) rfl ⟨rfl,?_⟩;refine Kept.alloc ?_ _
     repeat refine Kept.setCell ?_ (by simp only;omega) _
     exact ((((aQ _).alloc _).alloc _).alloc _|>.trans ak).trans a'
    ·rw[m1,m2]at ae;have aI:=hid (wu _ _ m1 m2 ae);have cp:=hid (And.intro m1 m2);clear mY wu m1 m2;go_enter func113,ntmps113
     go_wp2_with fail
     refine (BZ _ _ _).mono ?_;rintro e w1 ⟨rfl,ak⟩;rw[eB.out];obtain⟨a_,aS,aT⟩:=ak.BA;have bY:=aS.cell;go_wp2_with fail
     refine (BZ _ _ _).mono ?_;rintro e w2 ⟨rfl,a'⟩;rw[To.out];clear bY;replace a_:=a_.kept a';replace aS:=aS.kept a';replace aT:=aT.kept a';obtain⟨eP,cA⟩:=a_.p;obtain⟨bY,a7⟩:=aS.p;obtain⟨bc,bx,f2⟩:=aT.q;go_wp2_with fail
     refine bodyPost_ret (v:= .tuple #[.agg #[.int .i64 (kG a b c d).1,.int .i64 (kG a b c d).2.1],.bool (kG a b c d).2.2]) (by rw[aI.out];simp[results,results113,go_sem,bc,bx,cp.out.1,cp.out.2]) rfl ⟨rfl,?_⟩;refine Kept.alloc ?_ _
     repeat refine Kept.setCell ?_ (by simp only;omega) _
     exact ((((aQ _).alloc _).alloc _).alloc _|>.trans ak).trans a'
def rB (x e:kT):Bool:=(kG e.dH e.dB x.dH x.dB).2.2&&decide (max e.ei x.ei<min e.aE x.aE)
theorem ad0 (a b:kT) (w:World):Calls prog 84 #[xp a,xp b] w fun y w'=>y= .returned (.bool (rB b a))∧Kept w w':=by
 obtain⟨f1,t1,a7,I,en⟩:=a;obtain⟨f2,t2,bx,U,dQ⟩:=b;have dn:=hid (fun w=>af2 f1 t1 f2 t2 w);have aI:=hid (show rB ⟨f2,t2,bx,U,dQ⟩ ⟨f1,t1,a7,I,en⟩=((kG f1 t1 f2 t2).2.2&&decide (max a7 bx<min I U))from rfl);generalize rB ⟨f2,t2,bx,U,dQ⟩ ⟨f1,t1,a7,I,en⟩=R at*;generalize kG f1 t1 f2 t2=X at*;obtain⟨x,y,c⟩:=X;dsimp only at dn aI
 cases c
 ·have aV:=hid (show R=false from aI.out);unfold xp;go_enter func84,ntmps84
  go_wp2_with (go_at_call 113;refine (dn.out _).mono ?_;rintro e w1 ⟨rfl,ak⟩;obtain⟨cx,gQ⟩:=Kept.cells ak;have cb:=ak.size;(try simp at cb))
  go_ret;exact⟨eD aV.out.symm,(by with_reducible repeat first|exact .refl _|assumption|refine .drew ?_|refine .alloc ?_ _|refine .setCell ?_ (by (try simp only);omega) _|refine .trans ?_ ‹Kept _ _›)⟩
 ·have aV:=hid (show R=decide (max a7 bx<min I U)from aI.out);clear aI;unfold xp;go_enter func84,ntmps84
  go_upto_region 2 with (go_at_call 113;refine (dn.out _).mono ?_;rintro e w1 ⟨rfl,ak⟩;obtain⟨bY,bc⟩:=ak.Gx;have cr:=bY.alloc (.cells #[x,.int .i64 y] 80);have c2:=bc.alloc (.cells #[x,.int .i64 y] 80);have bB:=ak.alloc (.cells #[x,.int .i64 y] 80))
  have aW:=(((aQ w).alloc (.cells #[f1,t1,a7,I,en] 169)).alloc (.cells #[f2,t2,bx,U,dQ] 169)).trans bB;generalize w1.alloc (.cells #[x,.int .i64 y] 80)=V at*;obtain⟨aC,tG⟩:=cr.p;obtain⟨aM,Dv⟩:=c2.p;go_wp2_with fail
  go_ret;exact⟨eD aV.out.symm,aW⟩
def Bp (w:World) (g:Nat) (x:kT):Prop:=g<w.heap.size∧jZ w g 0 x
theorem Bp.kept {w w':World} {g:Nat} {x:kT} (h:Bp w g x) (aa:Kept w w'):Bp w' g x:=⟨bd h.1 aa.size,jZ.kept _ _ _ _ _ aa h.1 h.2⟩
theorem adx (e:kT) (g:Nat) (x:kT) (w:World) (hp:Bp w g x):
  Calls prog 83 #[xp e,.pointer (some ⟨g,0,none⟩)] w fun y w'=>y= .returned (.bool (rB x e))∧Kept w w':=by
 have bI:=hid (fun w1=>ad0 e x w1);obtain⟨ai,⟨bZ,-⟩,⟨b3,-⟩,⟨cT,-⟩,⟨ha,-⟩,⟨h0,-⟩⟩:=hp;generalize rB x e=R at*;obtain⟨f1,t1,a7,I,en⟩:=e;obtain⟨f2,t2,bx,U,dQ⟩:=x;unfold ed at bZ b3 cT ha h0;unfold xp at*;dsimp only at*;go_enter func83,ntmps83
 go_wp2_with (go_at_call 84;refine (bI.out _).mono ?_;rintro az w1 ⟨rfl,ak⟩)
 go_ret;exact⟨rfl,(by with_reducible repeat first|exact .refl _|assumption|refine .drew ?_|refine .alloc ?_ _|refine .setCell ?_ (by (try simp only);omega) _|refine .trans ?_ ‹Kept _ _›)⟩
theorem aeu (v:Value) (rs:List kT) (g:Nat) (x:kT) (w:World) (bj:cH 5 jZ w v rs) (hp:Bp w g x):
 Calls prog 82 #[v,.func (.func 83) #[] #[.pointer (some ⟨g,0,none⟩)]] w (ya (rB x) rs w):=by
 unfold ya;obtain⟨A,cap,rfl,w0,aq,aK⟩:=bj.at_;have bI:=hid (fun (r:kT) w1 (h:Kept w w1)=>adx r g x w1 (hp.kept h));obtain⟨n,aA⟩:∃n,n=rs.length:=⟨_,rfl⟩;rw[←aA]at aK w0 aq⊢;have bk:=hid aA;clear aA bj hp;go_enter func82,ntmps82
 go_wp2_with fail
 go_loopw [10] (fun z wr=>∃i:Nat,i≤n∧z= .int .i64 i∧Kept w wr∧nk (rB x) (rs.drop i) i=nk (rB x) rs 0) (fun z _=>(n-intOf z).toNat)
 case atStart=>exact⟨0,Nat.zero_le _,rfl,aQ _,rfl⟩
 case round=>
  obtain⟨i,de,rfl,ab,aG⟩:=hrel;by_cases aD:i<n
  ·obtain⟨b,off,rfl,J,af⟩:=aK (by omega);have ai:rs[i]?=some (rs[i]'(by have:=bk.out;omega)):=a8 _;rw[VI ai]at aG;obtain⟨⟨bZ,-⟩,⟨b3,-⟩,⟨cT,-⟩,⟨ha,-⟩,⟨h0,-⟩⟩:=af i _ ai;generalize rs[i]'(by have:=bk.out;omega)=r at*;have gd:=bZ.kept ab J;have hO:=b3.kept ab J;have iv:=cT.kept ab J;have zG:=ha.kept ab J;have DL:=h0.kept ab J;unfold ed at gd hO iv zG DL;have oW:=bd J ab.size;have c6:(i:Int)<n:=by omega
   have A8:=hid (bI.out r);have k0:xp r= .agg #[r.dH,r.dB,r.ei,r.aE,r.n]:=rfl;rw[k0]at A8;clear af aK ai bZ b3 cT ha h0 k0
   cases HL:rB x r
   all_goals
    rw[HL]at aG A8;clear HL;simp only[if_true,Bool.false_eq_true,if_false]at aG;have dd:=hid aG;clear aG;go_wp2_with (go_at_call 83;refine (A8.out _ (Kept.trans ab (by with_reducible repeat first|exact .refl _|assumption|refine .drew ?_|refine .alloc ?_ _|refine .setCell ?_ (by (try simp only);omega) _|refine .trans ?_ ‹Kept _ _›))).mono ?_;rintro y w2 ⟨rfl,a'⟩)
    first
     |(go_roundw
       case rel=>exact⟨i+1,aD,by go_num,(by with_reducible repeat first|exact .refl _|assumption|refine .drew ?_|refine .alloc ?_ _|refine .setCell ?_ (by (try simp only);omega) _|refine .trans ?_ ‹Kept _ _›),dd.out⟩
       case measure=>simp[intOf];omega)
     |(go_ret2;exact⟨by rw[←dd.out];rfl,(by with_reducible repeat first|exact .refl _|assumption|refine .drew ?_|refine .alloc ?_ _|refine .setCell ?_ (by (try simp only);omega) _|refine .trans ?_ ‹Kept _ _›)⟩)
  ·have c6:¬((i:Int)<n):=by omega
   rw[VJ (by have:=bk.out;omega)]at aG;have dd:=hid aG;clear aG;go_wp2_with fail
   go_ret2
   exact⟨by rw[←dd.out];rfl,ab⟩
def ov (q:Prop) (w:World) (e:Ending) (w':World):Prop:=∃d c:Int,e= .returned (.tuple #[d,c])∧(c=0↔q)∧ -1≤d∧d≤64∧Kept w w'
theorem ov.mk {q:Prop} {w w':World} {d c:Int} (h:c=0↔q) (I: -1≤d) (U:d≤64) (aa:Kept w w'):ov q w (.returned (.tuple #[d,c])) w':=⟨d,c,rfl,h,I,U,aa⟩
structure Gj (K V:Int×Int) (r:kT):Prop where
 e_:xv r.dH r.dB=true
 ne:r.dH≠r.dB
 anQ:¬r.aE≤r.ei
 ak:¬r.ei<K.1
 a':¬K.2<r.ei
 bw:¬r.aE-1<K.1
 cG:¬K.2<r.aE-1
 v1:¬r.n<V.1
 v2:¬V.2<r.n
structure zC (ms:List (List ByteArray)) (t:jm):Prop where
 aE:t.rows.length≤64
 EX:kn t.d_ t.eo ms=true
 dB:kn t.cy t.bE ms=true
 rw:∀j r,t.rows[j]?=some r→Gj (nQ t.d_ t.eo ms) (nQ t.cy t.bE ms) r∧nk (rB r) (t.rows.take j) 0=none
theorem cH.upto {α:Type} {k:Nat} {P:World→Nat→Nat→α→Prop} {w:World} {A:Option Addr} {n c i:Nat} {xs:List α} (h:cH k P w (.slice A n c) xs) (aE:i≤xs.length):cH k P w (.slice A i c) (xs.take i):=by
 obtain⟨nE,gf,he,I,U,af⟩:=h
 cases he;refine⟨A,c,by rw[List.length_take,Nat.min_eq_left aE],by rw[List.length_take];omega,by rw[List.length_take];omega,fun hp=> ?_⟩;rw[List.length_take]at hp;obtain⟨b,off,aK,J,ah⟩:=af (by omega);refine⟨b,off,aK,J,fun j x aB=>ah j x ?_⟩;rw[List.getElem?_take]at aB;split at aB
 ·exact aB
 ·cases aB
theorem ajU (bA c_:Value) (t:jm) (ms:List (List ByteArray)) (w:World) (aX:Enums w c_ ms) (aw:cH 5 jZ w bA t.rows):
  Calls prog 59 #[.agg #[t.ag,t.d_,t.eo,t.cy,t.bE,bA],c_] w (ov (zC ms t) w):=by
 have Dn:=hid (fun k e w1 (h:Kept w w1)=>IM k e c_ ms w1 (aX.kept h));have nG:=hid (fun k e w1 (h:Kept w w1)=>Oo k e c_ ms w1 (aX.kept h));have qd:=hid (fun a b w1=>OU a b w1);obtain⟨cY,fw,rfl,-⟩:=id aX;obtain⟨jy,ni,rfl,hcR,B',lS⟩:=id aw;have Nf:=hid (fun (j:Nat) (r:kT) (g:Nat) w1 (aB:j≤t.rows.length) (h:Kept w w1) (hp:Bp w1 g r)=>aeu (.slice jy j ni) (t.rows.take j) g r w1 ((aw.upto aB).kept jZ.kept h) hp);unfold ya at Nf;obtain⟨Q,cJ⟩:∃Q,Q=zC ms t:=⟨_,rfl⟩;rw[←cJ];have bz:=hid cJ;have dX:=hid (fun (c:Int) (ah:c≠0) (h:¬zC ms t)=>(show c=0↔Q from⟨fun e=>absurd e ah,fun q=>absurd (bz.out▸q) h⟩));obtain⟨ag,d_,eo,cy,bE,rows⟩:=t;dsimp only at*;have rj:=hid lS;generalize l':rows.length=c' at*;generalize ms.length=dN at*;have kR:=hid l';have aF:=hid ((aQ w).alloc (.cells #[ag,d_,eo,cy,bE,.slice jy c' ni] 60));clear aX aw lS cJ l';go_enter func59,ntmps59
 go_upto_region 1 with fail
 have aS:=ao.new w 60 #[ag,d_,eo,cy,bE,.slice jy c' ni];have aW:=aF.out;generalize w.alloc (.cells #[ag,d_,eo,cy,bE,.slice jy c' ni] 60)=W at*;have dD:=hid (fun w1 (h:Kept W w1)=>aS.kept h);obtain⟨aC,a7⟩:=aS.p;clear aS;by_cases aA:64<c'
 ·have oz:(64:Int)<c':=by omega
  have au:=hid (dX.out 4 (by decide) (fun h=>by have:=h.aE;dsimp only at this;rw[kR.out]at this;omega));clear aA;go_wp2_with fail
  exact bodyPost_ret (v:= .tuple #[.int .i64 64,.int .i64 4]) (by simp[results,results59,go_sem]) rfl (ov.mk au.out (by decide) (by decide) aW)
 have oz:¬((64:Int)<c'):=by omega
 have bk:=hid aA;clear aA
 cases aa:kn d_ eo ms
 case false=>
  have au:=hid (dX.out 8 (by decide) (fun h=>by have:=h.EX;dsimp only at this;rw[aa]at this;cases this));go_wp2_with (go_at_call 80;refine (Dn.out d_ eo _ aW).mono ?_;rw[aa];rintro az w1 ⟨rfl,ak⟩)
  exact bodyPost_ret (v:= .tuple #[.int .i64 (-1),.int .i64 8]) (by simp[results,results59,go_sem]) rfl (ov.mk au.out (by decide) (by decide) (aW.trans ak))
 cases ay:kn cy bE ms
 case false=>
  have au:=hid (dX.out 8 (by decide) (fun h=>by have:=h.dB;dsimp only at this;rw[ay]at this;cases this));go_wp2_with (first|(go_at_call_of 80 (Value.agg #[d_,eo]);refine (Dn.out d_ eo _ aW).mono ?_;rw[aa];rintro az w1 ⟨rfl,ak⟩;have bY:=dD.out _ ak;have d1:=bY.cell;have m1:=bY.lt)|(go_at_call_of 80 (Value.agg #[cy,bE]);refine (Dn.out cy bE _ (aW.trans ak)).mono ?_;rw[ay];rintro az w2 ⟨rfl,a'⟩))
  exact bodyPost_ret (v:= .tuple #[.int .i64 (-1),.int .i64 8]) (by simp[results,results59,go_sem]) rfl (ov.mk au.out (by decide) (by decide) ((by with_reducible repeat first|exact .refl _|assumption|refine .drew ?_|refine .alloc ?_ _|refine .setCell ?_ (by (try simp only);omega) _|refine .trans ?_ ‹Kept _ _›)))
 obtain⟨⟨mH,sX⟩,ab⟩:∃X,nQ d_ eo ms=X:=⟨_,rfl⟩;obtain⟨⟨v0,v9⟩,dZ⟩:∃X,nQ cy bE ms=X:=⟨_,rfl⟩;have uQ:=hid ab;have NP:=hid dZ;have er:=hid (And.intro aa ay);clear ab dZ;go_upto_region 7 with (first|(go_at_call_of 80 (Value.agg #[d_,eo]);refine (Dn.out d_ eo _ aW).mono ?_;rw[aa];rintro az w1 ⟨rfl,ak⟩;have bY:=dD.out _ ak;have d1:=bY.cell;have m1:=bY.lt)|(go_at_call_of 80 (Value.agg #[cy,bE]);refine (Dn.out cy bE _ (aW.trans ak)).mono ?_;rw[ay];rintro az w2 ⟨rfl,a'⟩;have bR:=ak.trans a';have bc:=dD.out _ bR;have d2:=bc.cell;have m2:=bc.lt;clear d1 m1 bY)|(go_at_call_of 67 (Value.agg #[d_,eo]);refine (nG.out d_ eo _ (aW.trans bR)).mono ?_;rw[uQ.out];rintro az cw ⟨rfl,bw⟩;have fe:=bR.trans bw;have eh:=dD.out _ fe;have d3:=eh.cell;have m3:=eh.lt;clear d2 m2 bc)|(go_at_call_of 67 (Value.agg #[cy,bE]);refine (nG.out cy bE _ (aW.trans fe)).mono ?_;rw[NP.out];rintro az eA ⟨rfl,cG⟩;have eO:=fe.trans cG;have dy:=dD.out _ eO;have d4:=dy.cell;have m4:=dy.lt;clear d3 m3 eh))
 clear aa ay dy Dn nG;have Dc:=hid (aW.trans eO);generalize eA=X at*;go_wp2_with fail
 clear d4 m4;go_loopw [47] (fun z wr=>∃j:Nat,z= .int .i64 j∧j≤c'∧Kept X wr∧∀k r,k<j→rows[k]?=some r→Gj (mH,sX) (v0,v9) r∧nk (rB r) (rows.take k) 0=none) (fun z _=>c'-(intOf z).toNat)
 case atStart=>exact⟨0,rfl,Nat.zero_le _,aQ _,fun _ _ h=>absurd h (Nat.not_lt_zero _)⟩
 case round=>
  obtain⟨j,rfl,gu,ab,j7⟩:=hrel;have cB:=hid j7;clear j7;by_cases aD:j<c'
  ·have e4:rows[j]?=some (rows[j]'(by rw[kR.out];exact aD)):=a8 _;obtain⟨b,off,rfl,J,ah⟩:=rj.out (by omega);obtain⟨⟨t0,z0⟩,⟨t1,e6⟩,⟨t2,z2⟩,⟨t3,z3⟩,⟨t4,z4⟩⟩:=ah j _ e4;generalize rows[j]'(by rw[kR.out];exact aD)=r at*;have jX:=hid e4;have jH:=hid (And.intro z0 (And.intro e6 (And.intro z2 (And.intro z3 z4))));obtain⟨dH,dB,ei,aE,n⟩:=r;dsimp only at*;unfold ed at t0 t1 t2 t3 t4;have bu:=Dc.out.trans ab;replace t0:=bu.ad J t0;replace t1:=bu.ad J t1;replace t2:=bu.ad J t2;replace t3:=bu.ad J t3;replace t4:=bu.ad J t4;have oW:=bd J bu.size;have hE:(j:Int)<c':=by omega
   have ns:(j:Int)+1≤9223372036854775807:=by have:=bk.out;omega
   have nr:=hid (show (-1:Int)≤j∧(j:Int)≤64 from by have:=bk.out;omega);have fX:=hid bu;have az:=(dD.out _ (eO.trans ab)).cell;have en:=(dD.out _ (eO.trans ab)).lt;clear e4 ah z0 e6 z2 z3 z4 bu;go_upto_region 10 with fail
   generalize ar:wr.alloc _=V at*;obtain⟨bX,cX⟩:=Kept.az ar;clear ar;clear az en t0 t1 t2 t3 t4 oW;generalize wr.heap.size=g at*;have si:=hid (fun w1 (h:Kept V w1)=>cX.kept h);obtain⟨b7,iC⟩:=cX.p;have oP:=hid (fun (h:¬(Gj (mH,sX) (v0,v9) ⟨dH,dB,ei,aE,n⟩∧nk (rB ⟨dH,dB,ei,aE,n⟩) (rows.take j) 0=none))=>(fun (q:zC ms ⟨ag,d_,eo,cy,bE,rows⟩)=>h (by have:=q.rw j _ jX.out;dsimp only at this;rw[uQ.out,NP.out]at this;exact this)));clear cX
   cases aj:xv dH dB
   case false=>
    have au:=hid (dX.out 3 (by decide) (oP.out fun h=>by have:=h.1.e_;dsimp only at this;rw[aj]at this;cases this));go_wp2_with (go_at_call 81;refine (qd.out dH dB _).mono ?_;rw[aj];rintro az cf ⟨rfl,cQ⟩;have c9:=si.out _ cQ;have d5:=c9.cell;have m5:=c9.lt)
    exact bodyPost_ret (v:= .tuple #[j,.int .i64 3]) (by simp[results,results59,go_sem]) rfl (ov.mk au.out nr.out.1 nr.out.2 (((fX.out.trans bX).trans cQ)))
   by_cases I:dH=dB
   ·have au:=hid (dX.out 3 (by decide) (oP.out fun h=>h.1.ne I));have Pe:(dH==dB)=true:=by simpa using I
    clear I;go_wp2_with (go_at_call 81;refine (qd.out dH dB _).mono ?_;rw[aj];rintro az cf ⟨rfl,cQ⟩;have c9:=si.out _ cQ;have d5:=c9.cell;have m5:=c9.lt)
    exact bodyPost_ret (v:= .tuple #[j,.int .i64 3]) (by simp[results,results59,go_sem]) rfl (ov.mk au.out nr.out.1 nr.out.2 (((fX.out.trans bX).trans cQ)))
   have Pe:(dH==dB)=false:=by simpa using I
   have H1:=hid I;clear I;by_cases U:aE≤ei
   ·have au:=hid (dX.out 3 (by decide) (oP.out fun h=>h.1.anQ U));go_wp2_with (go_at_call 81;refine (qd.out dH dB _).mono ?_;rw[aj];rintro az cf ⟨rfl,cQ⟩;have c9:=si.out _ cQ;have d5:=c9.cell;have m5:=c9.lt)
    exact bodyPost_ret (v:= .tuple #[j,.int .i64 3]) (by simp[results,results59,go_sem]) rfl (ov.mk au.out nr.out.1 nr.out.2 (((fX.out.trans bX).trans cQ)))
   have sh:=hid U;have h2b:decide (aE≤ei)=false:=decide_eq_false U;clear U;go_upto_region 12 with (go_at_call 81;refine (qd.out dH dB _).mono ?_;rw[aj];rintro az cf ⟨rfl,cQ⟩;have c9:=si.out _ cQ;have d5:=c9.cell;have m5:=c9.lt)
   have ax: -9223372036854775808≤aE-1∧aE-1≤9223372036854775807:=by have:=jH.out;have:=sh.out;omega
   obtain⟨n1,mG⟩:=ax;have tj:=hid aj;clear aj Pe h2b b7 iC c9 qd;by_cases b5:ei<mH
   ·have au:=hid (dX.out 3 (by decide) (oP.out fun h=>h.1.ak b5));go_wp2_with fail
    exact bodyPost_ret (v:= .tuple #[j,.int .i64 3]) (by simp[results,results59,go_sem]) rfl (ov.mk au.out nr.out.1 nr.out.2 (((fX.out.trans bX).trans cQ)))
   by_cases aC:sX<ei
   ·have au:=hid (dX.out 3 (by decide) (oP.out fun h=>h.1.a' aC));go_wp2_with fail
    exact bodyPost_ret (v:= .tuple #[j,.int .i64 3]) (by simp[results,results59,go_sem]) rfl (ov.mk au.out nr.out.1 nr.out.2 (((fX.out.trans bX).trans cQ)))
   by_cases aM:aE-1<mH
   ·have au:=hid (dX.out 3 (by decide) (oP.out fun h=>h.1.bw aM));go_wp2_with fail
    exact bodyPost_ret (v:= .tuple #[j,.int .i64 3]) (by simp[results,results59,go_sem]) rfl (ov.mk au.out nr.out.1 nr.out.2 (((fX.out.trans bX).trans cQ)))
   by_cases a1:sX<aE-1
   ·have au:=hid (dX.out 3 (by decide) (oP.out fun h=>h.1.cG a1));go_wp2_with fail
    exact bodyPost_ret (v:= .tuple #[j,.int .i64 3]) (by simp[results,results59,go_sem]) rfl (ov.mk au.out nr.out.1 nr.out.2 (((fX.out.trans bX).trans cQ)))
   go_upto_region 14 with fail
   have bI:=hid (And.intro b5 (And.intro aC (And.intro aM a1)));clear b5 aC aM a1 n1 mG;by_cases b5:n<v0
   ·have au:=hid (dX.out 3 (by decide) (oP.out fun h=>h.1.v1 b5));go_wp2_with fail
    exact bodyPost_ret (v:= .tuple #[j,.int .i64 3]) (by simp[results,results59,go_sem]) rfl (ov.mk au.out nr.out.1 nr.out.2 (((fX.out.trans bX).trans cQ)))
   by_cases aC:v9<n
   ·have au:=hid (dX.out 3 (by decide) (oP.out fun h=>h.1.v2 aC));go_wp2_with fail
    exact bodyPost_ret (v:= .tuple #[j,.int .i64 3]) (by simp[results,results59,go_sem]) rfl (ov.mk au.out nr.out.1 nr.out.2 (((fX.out.trans bX).trans cQ)))
   go_upto_region 16 with fail
   have xL:=hid (show Gj (mH,sX) (v0,v9) ⟨dH,dB,ei,aE,n⟩from⟨tj.out,H1.out,by have:=sh.out;dsimp only;omega,by have:=bI.out;dsimp only;omega,by have:=bI.out;dsimp only;omega,by have:=bI.out;dsimp only;omega,by have:=bI.out;dsimp only;omega,by dsimp only;omega,by dsimp only;omega⟩);have az:=(dD.out _ ((eO.trans ab).trans (bX.trans cQ))).cell;have en:=(dD.out _ ((eO.trans ab).trans (bX.trans cQ))).lt;have lb:=hid (fun dV (h:Kept cf dV)=>(show Bp dV g ⟨dH,dB,ei,aE,n⟩from⟨(si.out _ (cQ.trans h)).lt,⟨(si.out _ (cQ.trans h)).cell 0,jH.out.1⟩,⟨(si.out _ (cQ.trans h)).cell 1,jH.out.2.1⟩,⟨(si.out _ (cQ.trans h)).cell 2,jH.out.2.2.1⟩,⟨(si.out _ (cQ.trans h)).cell 3,jH.out.2.2.2.1⟩,⟨(si.out _ (cQ.trans h)).cell 4,jH.out.2.2.2.2⟩⟩));have hjc:(j:Int)≤ni:=by omega
   have zc:=hid (fun dV (h:Kept cf dV)=>Nf.out j ⟨dH,dB,ei,aE,n⟩ g dV (by omega) ((fX.out.trans (bX.trans cQ)).trans h) (lb.out dV h));clear b5 aC d5 m5 Nf
   cases bO:nk (rB ⟨dH,dB,ei,aE,n⟩) (rows.take j) 0 with
   |some i=>
    have au:=hid (dX.out 11 (by decide) (oP.out fun h=>by rw[bO]at h;cases h.2));rw[bO]at zc;unfold E8 at zc;dsimp only at zc;clear bO;go_wp2_with (go_at_call 82;refine (zc.out _ (aQ _)).mono ?_;rintro sH dV ⟨rfl,eW⟩)
    exact bodyPost_ret (v:= .tuple #[j,.int .i64 11]) (by simp[results,results59,go_sem]) rfl (ov.mk au.out nr.out.1 nr.out.2 ((fX.out.trans (bX.trans cQ)).trans eW))
   |none=>
    have hc:=hid (show∀k r,k<j+1→rows[k]?=some r→Gj (mH,sX) (v0,v9) r∧nk (rB r) (rows.take k) 0=none from fun k r aa hm=>by
     rcases Nat.lt_succ_iff_lt_or_eq.1 aa with h|rfl
     ·exact cB.out k r h hm
     ·have he:=jX.out.symm.trans hm
      cases he;exact⟨xL.out,bO⟩)
    rw[bO]at zc;unfold E8 at zc;dsimp only at zc;clear bO;go_wp2_with (go_at_call 82;refine (zc.out _ (aQ _)).mono ?_;rintro sH dV ⟨rfl,eW⟩)
    go_roundw
    case rel=>exact⟨j+1,by go_num,aD,ab.trans ((bX.trans cQ).trans eW),hc.out⟩
    case measure=>simp[intOf];omega
  ·obtain rfl:j=c':=by omega
   have hE:¬((j:Int)<j):=by omega
   have au:=hid (show Q from bz.out▸⟨by dsimp only;rw[kR.out];have:=bk.out;omega,er.out.1,er.out.2,fun k r hm=>by dsimp only at hm⊢;rw[uQ.out,NP.out];exact cB.out k r (by rw[←kR.out];exact (b8 hm).1) hm⟩);go_wp2_with fail
   exact bodyPost_ret (v:= .tuple #[(),()]) (by simp[results,results59,go_sem]) rfl (ov.mk (iff_of_true rfl au.out) (by decide) (by decide) (Dc.out.trans ab))
structure zD (bm:List mo) (tb:List jm) (i:Nat) (x:jm):Prop where
 id:lr (L x.ag)=true
 ne:eS x.ag (bm.map (·.ag))=false
 ik:eS x.ag ((tb.map (·.ag)).take i)=false
 ok:zC (bm.map (·.mem)) x
structure Bs (bm:List mo) (tb:List jm):Prop where
 aE:tb.length≤8
 all:∀i x,tb[i]?=some x→zD bm tb i x
theorem adk (bT:Value) (l:cZ) (w:World) (bL:gy w bT l):Calls prog 39 #[bT] w (k1 (Bs l.bm l.tb) w):=by
 obtain⟨c_,b4,b2,rfl,aj,I,U⟩:=bL;have wA:=hid (fun (t:jm) (bA:Value) (w1:World) (h:Kept w w1) (aw:cH 5 jZ w1 bA t.rows)=>ajU bA c_ t (l.bm.map (·.mem)) w1 (Kw (aj.kept n_.kept h)) aw);unfold ov at wA;have cv:=hid (fun (s:ByteArray) w1 (h:Kept w w1)=>PM _ _ s w1 (aj.kept n_.kept h));have dn:=hid (fun s (ax:s.size≤140737488355328) w1=>HX s ax w1);obtain⟨cY,fw,rfl,-⟩:=id aj;obtain⟨cU,cW,rfl,hcT,hlT,YE⟩:=id I;obtain⟨jU,hP,rfl,-⟩:=id U;have ch:=hid (fun (s:ByteArray) (j:Nat) w1 (aB:j≤l.tb.length) (h:Kept w w1)=>WS (.slice cU j cW) (l.tb.take j) s w1 ((I.upto aB).kept kU.kept h));unfold gW at cv ch;obtain⟨Q,cJ⟩:∃Q,Q=Bs l.bm l.tb:=⟨_,rfl⟩;rw[←cJ];have bz:=hid cJ;have dX:=hid (fun (h:¬Bs l.bm l.tb)=>(show¬Q from fun q=>h (bz.out▸q)));have HXT:=hid YE;generalize l.bm.length=dN at*;generalize HJ:l.tb.length=dh at*;generalize l.sc.length=aaa at*;have zh:=hid HJ;clear aj I U YE cJ HJ;go_enter func39,ntmps39
 go_upto_region 1 with fail
 generalize ar:(w.alloc _).alloc _=W at*;obtain⟨aW,aS,aT⟩:=Kept.a6 ar;clear ar;have dD:=hid (fun w1 (h:Kept W w1)=>aS.kept h);have dr:=hid (fun w1 (h:Kept W w1)=>aT.kept h);obtain⟨aC,a7⟩:=aS.p;clear aS aT;by_cases aA:8<dh
 ·have oz:(8:Int)<dh:=by omega
  have au:=hid (dX.out fun h=>by have:=h.aE;rw[zh.out]at this;omega);have bc:=dr.out _ (aQ _);obtain⟨aM,bx,f2⟩:=bc.q;have bq:=hid (mg bc aW (by omega) (.int .i64 4) (.int .i64 2) (.int .i64 8) ());clear aA bc;go_wp2_with fail
  have cu:=bq.out.1.cell;exact bodyPost_ret (v:= .agg #[.int .i64 4,.int .i64 2,.int .i64 8,()]) (by simp[results,results39,go_sem,cu]) rfl (k1.no (by decide) au.out bq.out.2)
 have oz:¬((8:Int)<dh):=by omega
 have bk:=hid aA;clear aA;go_wp2_with fail
 clear aC a7;go_loopw [16] (fun z wr=>∃j:Nat,z= .int .i64 j∧j≤dh∧Kept W wr∧∀k x,k<j→l.tb[k]?=some x→zD l.bm l.tb k x) (fun z _=>dh-(intOf z).toNat)
 case atStart=>exact⟨0,rfl,Nat.zero_le _,aQ _,fun _ _ h=>absurd h (Nat.not_lt_zero _)⟩
 case round=>
  obtain⟨j,rfl,gu,ab,j7⟩:=hrel;have cB:=hid j7;clear j7;by_cases aD:j<dh
  ·have e4:l.tb[j]?=some (l.tb[j]'(by rw[zh.out];exact aD)):=a8 _;obtain⟨b,off,rfl,J,ah⟩:=HXT.out (by omega);obtain⟨⟨t0,jw⟩,⟨t1,-⟩,⟨t2,-⟩,⟨t3,-⟩,⟨t4,-⟩,⟨bA,t5,aw⟩⟩:=ah j _ e4;generalize sT:l.tb[j]'(by rw[zh.out];exact aD)=x at*;have jX:=hid e4;unfold ed at t0 t1 t2 t3 t4 t5;have bu:=aW.trans ab;have nJ:=hid (aw.kept jZ.kept bu);obtain⟨jy,ni,rfl,-⟩:=id aw;replace t0:=bu.ad J t0;replace t1:=bu.ad J t1;replace t2:=bu.ad J t2;replace t3:=bu.ad J t3;replace t4:=bu.ad J t4;replace t5:=bu.ad J t5;have oW:=bd J bu.size;have hE:(j:Int)<dh:=by omega
   have NO:=hid (fun w1 (h:Kept wr w1)=>wA.out x _ w1 (bu.trans h) (nJ.out.kept jZ.kept h));have oP:=hid (fun (h:¬zD l.bm l.tb j x)=>dX.out fun q=>h (q.all j x e4));have Tk:=hid (fun (h:zD l.bm l.tb j x)=>(show∀k x,k<j+1→l.tb[k]?=some x→zD l.bm l.tb k x from fun k IQ aa hm=>by
     rcases Nat.lt_succ_iff_lt_or_eq.1 aa with g|rfl
     ·exact cB.out k IQ g hm
     ·have he:=e4.symm.trans hm
      cases he;exact h))
   have tw:=hid (fun (a:lr (L x.ag)=true) (b:eS x.ag (l.bm.map (·.ag))=false) (c:eS x.ag ((l.tb.map (·.ag)).take j)=false) (d:zC (l.bm.map (·.mem)) x)=>(⟨a,b,c,d⟩:zD l.bm l.tb j x));have jj:=hid (fun (h:zD l.bm l.tb j x)=>(show lr (L x.ag)=true∧eS x.ag (l.bm.map (·.ag))=false∧eS x.ag ((l.tb.map (·.ag)).take j)=false∧zC (l.bm.map (·.mem)) x from⟨h.id,h.ne,h.ik,h.ok⟩));have Di:=hid (fun w1 (h:Kept w w1)=>ch.out x.ag j w1 (by omega) h);rw[List.map_take]at Di;have Tg:=hid (fun w1 (h:Kept w w1)=>cv.out x.ag w1 h);have FO:=hid (fun w1=>dn.out x.ag jw w1);have fX:=hid bu;have az:=(dD.out _ ab).cell;have m1:=(dD.out _ ab).lt;have ns:(j:Int)+1≤9223372036854775807:=by have:=bk.out;omega
   have gs:w.heap.size+1<wr.heap.size:=(dr.out _ ab).lt;generalize x.rows.length=c' at*;generalize zC (l.bm.map (·.mem)) x=aoi at*;generalize eS x.ag (l.bm.map (·.ag))=Iv at*;generalize eS x.ag ((l.tb.map (·.ag)).take j)=L8 at*;generalize lr (L x.ag)=an2 at*;generalize zD l.bm l.tb j x=aoj at*;generalize x.ag=ag at*;generalize x.d_=d_ at*;generalize x.eo=eo at*;generalize x.cy=cy at*;generalize x.bE=bE at*;have HJC:=hid (show (j:Int)≤cW by omega);clear e4 sT aw ah bu wA ch cv dn jw;go_upto_region 7 with fail
   generalize ar:(wr.alloc _).alloc _=V at*;obtain⟨bX,ec,fB⟩:=Kept.a6 ar;clear ar;clear az m1 t0 t1 t2 t3 t4 t5 oW aD;generalize wr.heap.size=g at*;have ql:=hid (fun w1 (h:Kept V w1)=>dD.out _ ((ab.trans bX).trans h));have px:=hid (fun w1 (h:Kept V w1)=>dr.out _ ((ab.trans bX).trans h));have Dl:=hid (fun w1 (h:Kept V w1)=>ec.kept h);have wB:=hid (fun w1 (h:Kept V w1)=>fB.kept h);have er:=hid (fX.out.trans bX);have gj:=hid (ab.trans bX);have az:=(ql.out _ (aQ _)).cell;have m1:=(ql.out _ (aQ _)).lt;obtain⟨fh,m4⟩:=ec.p;clear ec fB;go_upto_region 8 with (go_at_call 59;refine (NO.out _ bX).mono ?_;rintro sH dV ⟨d,c,rfl,lM,gB,l8,eW⟩;have ir:=hid lM;clear lM)
   have I7:=hid (And.intro gB l8);clear az m1 fh m4 gB l8;have fh:=(Dl.out _ eW).cell;have m4:=(Dl.out _ eW).lt;have hr:=(wB.out _ eW).cell;have m5:=(wB.out _ eW).lt;have f5:=(wB.out _ eW).frozen
   cases bC:an2
   case false=>
    have au:=hid (oP.out fun h=>by have:=(jj.out h).1;rw[bC]at this;cases this);rw[bC]at FO;go_upto_region 16 with (go_at_call 60;refine (FO.out _).mono ?_;rintro sI jT ⟨rfl,rfl⟩)
    have c9:=(wB.out _ eW).aP 0 (.int .i64 2);have bc:=(px.out _ eW).far (p:=⟨g+1,0,none⟩) (show w.heap.size+1≠g+1 by omega) (.int .i64 2);have yy:=(er.out.trans eW).setCell (p:=⟨g+1,0,none⟩) (show w.heap.size≤g+1 by omega) (.int .i64 2);simp only[List.setIfInBounds_toArray,List.set_cons_zero]at c9;generalize kd:(dV.setCell ⟨g+1,0,none⟩ (.int .i64 2))=bG at*;obtain⟨bJ,dP⟩:=c9.p;obtain⟨aM,bx,f2⟩:=bc.q;have bq:=hid (mg bc yy (by omega) (.int .i64 2) (.int .i64 2) j ());clear c9 bc kd fh m4 hr m5 f5;go_wp2_with fail
    have cu:=bq.out.1.cell;exact bodyPost_ret (v:= .agg #[.int .i64 2,.int .i64 2,j,()]) (by simp[results,results39,go_sem,cu]) rfl (k1.no (by decide) au.out bq.out.2)
   rw[bC]at FO;go_upto_region 10 with (go_at_call 60;refine (FO.out _).mono ?_;rintro sI jT ⟨rfl,rfl⟩)
   clear FO;clear fh m4 hr m5 f5;go_cut [36] (fun z bt=>z= .bool (Iv||L8)∧Kept dV bt)
   case first=>
    have a0:=al.cell (ql.out _ eW).lt ((ql.out _ eW).cell 0);have cE:=al.cell (ql.out _ eW).lt ((ql.out _ eW).cell 1);have a4:=al.cell (Dl.out _ eW).lt ((Dl.out _ eW).cell 0);have hjc:=HJC.out;have Tv:=hid (er.out.trans eW)
    cases Iv
    all_goals
     go_wp2_with fail
     refine fQ (by kernel_rfl) (by kernel_rfl) ?_
     repeat (go_big_quiet_step (first|(go_at_call 61;exact al.call (Tg.out _ (Tv.out.trans (al.h _))))|(go_at_call 62;exact al.call (Di.out _ (Tv.out.trans (al.h _))))))
     refine wpQuiet_nil ?_;rintro ta ⟨⟨wx8,rY⟩,bb⟩;obtain rfl:ta=wx8:=bb;go_wp2_with fail
     go_meet;exact⟨rfl,rY⟩
   case rest=>
   obtain⟨rfl,rY⟩:=hcut;generalize wc=ta at*;clear Tg Di;have od:=eW.trans rY;have hr:=(wB.out _ od).cell;have m5:=(wB.out _ od).lt;have f5:=(wB.out _ od).frozen;have fh:=trivial;have m4:=trivial;by_cases b':Iv=false∧L8=false
   case neg=>
    have J:(Iv||L8)=true:=by cases Iv<;>cases L8<;>simp_all
    have au:=hid (oP.out fun h=>b' ⟨(jj.out h).2.1,(jj.out h).2.2.1⟩);rw[J];clear b' J;go_upto_region 16 with fail
    have c9:=(wB.out _ od).aP 0 (.int .i64 7);have bc:=(px.out _ od).far (p:=⟨g+1,0,none⟩) (show w.heap.size+1≠g+1 by omega) (.int .i64 7);have yy:=(er.out.trans od).setCell (p:=⟨g+1,0,none⟩) (show w.heap.size≤g+1 by omega) (.int .i64 7);simp only[List.setIfInBounds_toArray,List.set_cons_zero]at c9;generalize kd:(ta.setCell ⟨g+1,0,none⟩ (.int .i64 7))=bG at*;obtain⟨bJ,dP⟩:=c9.p;obtain⟨aM,bx,f2⟩:=bc.q;have bq:=hid (mg bc yy (by omega) (.int .i64 7) (.int .i64 2) j ());clear c9 bc kd fh m4 hr m5 f5;go_wp2_with fail
    have cu:=bq.out.1.cell;exact bodyPost_ret (v:= .agg #[.int .i64 7,.int .i64 2,j,()]) (by simp[results,results39,go_sem,cu]) rfl (k1.no (by decide) au.out bq.out.2)
   obtain⟨D4,nV⟩:=b';subst D4 nV;rw[show (false||false)=false from rfl];by_cases fT:c=0
   case neg=>
    have hh:(c !=0)=true:=by simpa using fT
    have au:=hid (oP.out fun h=>fT (ir.out.2 (jj.out h).2.2.2));have C1:=hid fT;clear fT ir;by_cases av:d= -1
    ·subst av;go_upto_region 16 with fail
     have c9:=(wB.out _ od).aP 0 c;have bc:=(px.out _ od).far (p:=⟨g+1,0,none⟩) (show w.heap.size+1≠g+1 by omega) c;have yy:=(er.out.trans od).setCell (p:=⟨g+1,0,none⟩) (show w.heap.size≤g+1 by omega) c;simp only[List.setIfInBounds_toArray,List.set_cons_zero]at c9;generalize kd:(ta.setCell ⟨g+1,0,none⟩ c)=bG at*;obtain⟨bJ,dP⟩:=c9.p;obtain⟨aM,bx,f2⟩:=bc.q;have bq:=hid (mg bc yy (by omega) c (.int .i64 2) j ());clear c9 bc kd fh m4 hr m5 f5;go_wp2_with fail
     have cu:=bq.out.1.cell;exact bodyPost_ret (v:= .agg #[c,.int .i64 2,j,()]) (by simp[results,results39,go_sem,cu]) rfl (k1.no C1.out au.out bq.out.2)
    ·have pO:(d != -1)=true:=by simpa using av
     have gB: -9223372036854775808≤100+d:=by have:=I7.out;omega
     have l8:100+d≤9223372036854775807:=by have:=I7.out;omega
     clear av;go_upto_region 16 with fail
     have c9:=(wB.out _ od).aP 0 c;have bc:=(px.out _ od).far (p:=⟨g+1,0,none⟩) (show w.heap.size+1≠g+1 by omega) c;have yy:=(er.out.trans od).setCell (p:=⟨g+1,0,none⟩) (show w.heap.size≤g+1 by omega) c;replace c9:=c9.aP 3 (.int .i64 (100+d));replace bc:=bc.far (p:=⟨g+1,3,none⟩) (show w.heap.size+1≠g+1 by omega) (.int .i64 (100+d));replace yy:=yy.setCell (p:=⟨g+1,3,none⟩) (show w.heap.size≤g+1 by omega) (.int .i64 (100+d));simp only[List.setIfInBounds_toArray,List.set_cons_zero,List.set_cons_succ]at c9;generalize kd:((ta.setCell ⟨g+1,0,none⟩ c).setCell ⟨g+1,3,none⟩ (.int .i64 (100+d)))=bG at*;obtain⟨bJ,dP⟩:=c9.p;obtain⟨aM,bx,f2⟩:=bc.q;have bq:=hid (mg bc yy (by omega) c (.int .i64 2) j (.int .i64 (100+d)));clear c9 bc kd fh m4 hr m5 f5;go_wp2_with fail
     have cu:=bq.out.1.cell;exact bodyPost_ret (v:= .agg #[c,.int .i64 2,j,.int .i64 (100+d)]) (by simp[results,results39,go_sem,cu]) rfl (k1.no C1.out au.out bq.out.2)
   subst fT;have hc:=hid (Tk.out (tw.out bC rfl rfl (ir.out.1 rfl)));clear Tk tw ir oP jj fh m4 bC;go_wp2_with fail
   go_roundw
   case rel=>exact⟨j+1,by go_num,by omega,gj.out.trans od,hc.out⟩
   case measure=>simp[intOf];omega
  ·obtain rfl:j=dh:=by omega
   have hE:¬((j:Int)<j):=by omega
   have au:=hid (show Q from bz.out▸⟨by rw[zh.out];have:=bk.out;omega,fun k x hm=>cB.out k x (by rw[←zh.out];exact (b8 hm).1) hm⟩);have bc:=dr.out _ ab;obtain⟨aM,bx,f2⟩:=bc.q;have bq:=hid (mg bc (aW.trans ab) (by omega) () () () ());clear bc;go_wp2_with fail
   have cu:=bq.out.1.cell;exact bodyPost_ret (v:= .agg #[(),(),(),()]) (by simp[results,results39,go_sem,cu]) rfl (k1.yes au.out bq.out.2)
end Go.Proofs.YtobpgndkciofhaaGreatDoor
