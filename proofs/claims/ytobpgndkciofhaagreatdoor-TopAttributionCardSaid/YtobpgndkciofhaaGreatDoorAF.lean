import Derived.Test.YtobpgndkciofhaaGreatDoorAD
import Derived.Test.YtobpgndkciofhaaGreatDoorAE
set_option linter.all false
namespace Go.Proofs.YtobpgndkciofhaaGreatDoor
open Go.RowKit Go.Proofs.Tryz
open Go.Lib (hid)
set_option maxRecDepth 100000
set_option maxHeartbeats 32000000
theorem Tryz.afW:(prog.info? 31).map (fun i=>(i.zero,i.size,i.bytes))=some (some (.slice none 0 0),1,24):=by kernel_rfl
theorem Tryz.afV:(prog.info? 136).map (fun i=>(i.zero,i.size,i.bytes))=some (some (.agg #[aR,aR]),2,48):=by kernel_rfl
theorem aeo (bT pZ r4:Value) (l:cZ) (sc:Int) (c:h9) (P D M:Nat) (fR:Option Addr) (bo b6 bA hX hQ hz:Value) (s m:bP) (nb cI:List Bool) (dI w:World) (aj:Kept dI w) (bL:gy w bT l) (bC:ff w pZ c.ins) (br:ld w r4 c.mem)
  (eV:JC dI P D M bo b6 bA hX hQ hz s m) (bM:Dy P D M fR bo b6 bA hX hQ hz s m nb cI w) (ax:pB s.rs) (Lm:s.ds.length≤1000) (hm:pB m.rs) (qK:m.ds.length≤1000) (o1:nb.length=s.ds.length) (Et:cI.length=m.ds.length)
  (has:∀d:Int,¬nN (gg s.ds.length s.rs) d d) (wZ:∀d:Int,¬nN (gg m.ds.length m.rs) d d) (nm:Mon w) (gR:c.mem.length≤1000):
  Calls prog 23 #[bT,sc,.agg #[c.d,pZ,r4],.pointer (some ⟨P,0,none⟩)] w (Kz (x' l m s c nb cI) s.ds.length w):=by
 obtain⟨i0,aE,fy,cb,eu⟩:=info_parts QO;obtain⟨ij,hS,hT,hU,hV⟩:=info_parts Tryz.afW;obtain⟨mH,Lw,kz0,kz1,kz2⟩:=info_parts Tryz.afV;obtain⟨qG,V6,Eb⟩:=bM;obtain⟨c_,b4,b2,rfl,cA,a7,bx⟩:=bL;have bj:=eV.s.kept aj;have zZ:=eV.m.kept aj;have hPw:=qG.lt;have TE:=hid (fun (w1:World) (h:Kept w w1) (p:Nat) (yA:Value) (eg:List bg) (j:Int) (dZ:ff w yA eg) (aU:ao w1 p 98 #[c.d,yA,aR,aR,aR,b4]) (hp:w.heap.size≤p)=>
  Vy (.agg #[m.ag,m.ms,hX,hQ,hz]) yA aR aR b4 aR (.slice fR cI.length cI.length) m (r2 l.tb c.d eg) cI p j w1 aU
   (fun w' hw=>have aa:=hw.kept h hp;⟨zZ.kept aa,dZ.kept aa,⟨none,0,rfl,by simp[r2],fun h=>absurd h (by simp[r2])⟩,⟨none,0,rfl,fun h=>absurd h (by simp[r2])⟩,a7.kept kU.kept aa,(UI Eb).kept aa,nm.kept aa⟩) hm qK Et wZ)
 have A5:=hid (fun (w1:World) (h:Kept w w1) (p:Nat) (bW yS:Value) (acc:List (List bg)) (aU:ao w1 p 98 #[c.d,pZ,aR,bW,yS,b4]) (hp:w.heap.size≤p) (K':∀w',Two w1 w' none p→ld w' bW acc) (Qy:∀w',Two w1 w' none p→kb w' yS (m.ds.map jG))=>
  Vy (.agg #[s.ag,s.ms,bo,b6,bA]) pZ bW yS b4 aR (.slice (some ⟨D,0,none⟩) nb.length nb.length) s (vk l m c acc) nb p (-1) w1 aU
   (fun w' hw=>have aa:=hw.kept h hp;⟨bj.kept aa,bC.kept aa,K' w' hw,Qy w' hw,a7.kept kU.kept aa,(UI (fun _=>⟨rfl,V6⟩)).kept aa,nm.kept aa⟩) ax Lm o1 has)
 unfold Kx at TE A5;obtain⟨_,_,_,he,cE,a2,a3⟩:=bj;simp only[Value.agg.injEq,Array.mk.injEq,List.cons.injEq,true_and,and_true]at he;obtain⟨rfl,rfl,rfl⟩:=he;obtain⟨gN,gS,rfl,-⟩:=cE;obtain⟨fo,fS,rfl,-⟩:=a2;obtain⟨eC,rc,rfl,-⟩:=a3;obtain⟨_,_,_,he,cE,a2,a3⟩:=zZ;simp only[Value.agg.injEq,Array.mk.injEq,List.cons.injEq,true_and,and_true]at he;obtain⟨rfl,rfl,rfl⟩:=he;obtain⟨l2,mf,rfl,-⟩:=cE;obtain⟨lY,jF,rfl,-,KG,V8⟩:=a2;obtain⟨sx,k7,rfl,-⟩:=a3;obtain⟨cY,fw,rfl,-⟩:=cA;obtain⟨cU,cW,rfl,-⟩:=a7;obtain⟨jU,hP,rfl,-⟩:=bx;obtain⟨dS,gP,rfl,-⟩:=id bC;obtain⟨eH,kY,rfl,-,G_⟩:=id br;obtain⟨dt,ins,mem⟩:=c;dsimp only at*;have FV:=hid qG;have HWW:=hid eV;have M9:=hid V8;have Da:=hid G_;obtain⟨u_,BV⟩:∃R,x' l m s ⟨dt,ins,mem⟩ nb cI=R:=⟨_,rfl⟩;rw[BV];have lG:=hid BV;generalize l.bm.length=dN at*;generalize l.tb.length=dh at*;generalize l.sc.length=aaa at*;generalize ins.length=b1 at*;generalize Af:mem.length=ew at*;have kQ:=hid Af;clear qG V6 Eb bC br eV aj ax hm has wZ nm BV G_ V8 Af;generalize s.ag=IC at*;generalize s.ms=IB at*;generalize s.ins.length=sni at*;generalize WB:s.ds.length=snd at*;have ab0:=hid WB;clear WB;generalize s.rs.length=snr at*;generalize m.ag=Ii at*;generalize m.ms=Ih at*;generalize m.ins.length=Zu at*;generalize m.rs.length=Zv at*;generalize nb.length=LP at*;generalize cI.length=LN at*;clear o1 Et;go_enter func23,ntmps23
 go_upto_region 1 with fail
 generalize ar:((((w.alloc _).alloc _).alloc _).alloc _).alloc _=W0 at*;obtain⟨aF,ec,e0,h1,eM,gK⟩:=Kept.hr ar;clear ar;obtain⟨bN,f4⟩:=ec.p;obtain⟨eQ,f6⟩:=e0.p;go_upto_region 3 with fail
 generalize ar:(W0.alloc _).alloc _=W at*;obtain⟨bX,SD,wg⟩:=Kept.a6 ar;clear ar;have Xl:=gK.lt;clear bN eQ f4 f6;generalize aX:W0.heap.size=E at*;have dO:=hid (show w.heap.size+4<E from by have:=Xl;omega);have M_:=hid (show E+1<W.heap.size from wg.lt);have bB:=aF.trans bX;have iP:=hid bB;have cg:=hid (And.intro (ec.kept bX) (And.intro (e0.kept bX) (And.intro (h1.kept bX) (And.intro (eM.kept bX) (gK.kept bX)))));have HBR:=hid wg;have hEw:=dO.out;have y4:=FV.out.kept bB;obtain⟨p,pl⟩:=y4.p;clear ec e0 h1 eM gK bX aF Xl aX;have hT0:wI W E W.heap.size dt (.slice dS b1 gP) aR (.slice cU dh cW) [] W:=⟨Two.refl _ _ _,SD,c3.nil _ _ _,by have:=M_.out;omega⟩;go_upto_region 4 with fail
 clear p pl y4 SD wg bB;generalize yo:m.ds.length=cS at*;have iE:=hid yo;clear yo;go_loopw [35] (fun y wr=>∃(j:Nat) (yS:Value),y= .int .i64 j∧j≤cS∧wI W E W.heap.size dt (.slice dS b1 gP) yS (.slice cU dh cW) ((m.ds.take j).map jG) wr) (fun y _=>cS-(intOf y).toNat)
 case atStart=>exact⟨0,_,rfl,Nat.zero_le _,hT0⟩
 case round=>
  obtain⟨j,yS,rfl,tZ,bl⟩:=hrel;by_cases aD:j<cS
  ·obtain⟨At,gX,rfl,cx,fE⟩:=bl.row.form;have nt:((m.ds.take j).map jG).length=j:=by rw[List.length_map,List.length_take];have:=iE.out;omega
   rw[nt]at cx bl;obtain⟨b,o,rfl,J,B3⟩:=M9.out (by omega);have ai:m.ds[j]?=some (m.ds[j]'(by have:=iE.out;omega)):=a8 _;obtain⟨⟨t0,-⟩,⟨t1,-⟩,⟨t2,-⟩⟩:=B3 j _ ai;have ep:=hid (show (m.ds.take (j+1)).map jG=(m.ds.take j).map jG++[jG (m.ds[j]'(by have:=iE.out;omega))] by rw[List.take_succ_eq_append_getElem (by have:=iE.out;omega),List.map_append];rfl);generalize m.ds[j]'(by have:=iE.out;omega)=x at*;obtain⟨ag,k,e⟩:=x;unfold ed at t0 t1 t2;dsimp only at t0 t1 t2;have qE:=bl.two.kept iP.out (by omega);have bZ:=qE.ad J t0;have b3:=qE.ad J t1;have cT:=qE.ad J t2;have rI:=bd J qE.size;have hE:(j:Int)<cS:=by omega
   have o0:j+1≤maxLen:=by unfold maxLen;omega
   have qi:=hid nt;have hD:=(aQ wr).alloc (.cells #[ag,k,e] 102);have wA:=hid (bl.keep hD);have n9:=ao.new wr 102 #[ag,k,e];have hWr:=bl.two.size;have D5:=bl.aX;clear B3 t0 t1 t2 nt bl ai qE;go_upto_region 6 with fail
   clear bZ b3 cT;generalize wr.alloc (.cells #[ag,k,e] 102)=V at*;obtain⟨cc,kV⟩:=n9.p;have be:=wA.out.gn.cell;have UC:=wA.out.gn.lt;have hWV:W.heap.size≤V.heap.size:=wA.out.two.size;clear n9 hD;go_wp2_with (at_builtin;go_loud (refine wpList_append_lies _ rfl (.tmp 40) (.tmp 43) 96 rfl W.heap.size 57 i0 (.agg #[(),()]) 2 16 underlying96 aE fy cb eu rfl (by decide) _ j (((m.ds.take j).map jG).flatMap jx) rfl (by have:=c3.alloc wA.out.row (.cells #[k,e] 57);unfold c3 at this;rw[qi.out]at this;exact this) ⟨V.heap.size,0,none⟩ 1 1 (jx ⟨k,e⟩) rfl rfl Sj (Sh _) (by decide) o0 (by omega) (by simp;omega) _ rfl ?_);intro g1 aC w1 I U ae aJ;have dW:=hid (wA.out.app (Nat.le_refl _) qi.out I U);obtain⟨-,-,tf⟩:=wA.out.E5 U;clear I U ae be UC;have be:=tf.cell;have UC:=tf.lt;have bef:=tf.frozen)
   go_roundw
   case rel=>exact⟨j+1,_,by go_num,aD,by rw[ep.out];exact dW.out⟩
   case measure=>simp[intOf];omega
  ·obtain rfl:j=cS:=by omega
   have hE:¬((j:Int)<j):=by omega
   rw[List.take_of_length_le (by rw[iE.out];exact Nat.le_refl _)]at bl;have hD:=bl.two.kept iP.out (by omega);have ch:=hid bl;obtain⟨At,gX,rfl,-⟩:=bl.row.form;generalize ((m.ds.map jG).length)=ki at*;generalize wr=e8 at*;have la:=hid hD;have Ed:=bl.two.size;have D7:=M_.out;have dr:=hid (fun (w':World) (h:Two e8 w' (some (E+1)) E)=>And.intro (IJ h (bl.two.fD cg.out.1 (by omega)) (by omega) (by omega)) (And.intro (IJ h (bl.two.fD cg.out.2.1 (by omega)) (by omega) (by omega)) (And.intro (IJ h (bl.two.fD cg.out.2.2.1 (by omega)) (by omega) (by omega)) (And.intro (IJ h (bl.two.fD cg.out.2.2.2.1 (by omega)) (by omega) (by omega)) (IJ h (bl.two.fD cg.out.2.2.2.2 (by omega)) (by omega) (by omega))))));have Bc:=hid (show tI e8 E (E+1) e8.heap.size dt (.slice dS b1 gP) (.slice At ki gX) (.slice cU dh cW) aR aR [] e8 from⟨Two.refl _ _ _,bl.gn,bl.two.fD HBR.out (by omega),ag7 _ _,⟨[],World.ownsRow_nil _ _ _ _⟩,fun g ai=>(by cases ai),by omega,by omega,by omega⟩);have eE:=(dr.out e8 (Two.refl _ _ _)).2.1;obtain⟨eQ,ev⟩:=eE.p;clear bl eE;go_upto_region 9 with fail
   clear eQ ev;go_loopw [50] (fun y wr=>∃(j:Nat) (acc:List (List bg)) (bW hz:Value),y= .int .i64 j∧j≤ew∧tI e8 E (E+1) e8.heap.size dt (.slice dS b1 gP) (.slice At ki gX) (.slice cU dh cW) bW hz acc wr∧acc.length=j∧kI ca l.tb dt m cI (mem.drop j) acc=kI ca l.tb dt m cI mem []) (fun y _=>ew-(intOf y).toNat)
   case atStart=>exact⟨0,[],_,_,rfl,Nat.zero_le _,Bc.out,rfl,rfl⟩
   case round=>
    obtain⟨i,acc,bW,hz,rfl,de,bj,js,aG⟩:=hrel;have qE:=ajY bj.two la.out (by omega) (by omega);by_cases aD:i<ew
    ·obtain⟨b,o,rfl,J,B3⟩:=Da.out (by omega);have ai:mem[i]?=some (mem[i]'(by have:=kQ.out;omega)):=a8 _;obtain⟨-,yA,t0,dZ⟩:=B3 i _ ai;rw[List.drop_eq_getElem_cons (by have:=kQ.out;omega)]at aG;generalize mem[i]'(by have:=kQ.out;omega)=eg at*;obtain⟨fA,b_,iU⟩:∃fA b_,nC ca (r2 l.tb dt eg) m cI=(fA,b_):=⟨_,_,rfl⟩;rw[agV,iU]at aG;dsimp only at aG;have dd:=hid aG;have Hc:iL ca (r2 l.tb dt eg) m.rs cI (o' (gg j m.rs)) (List.replicate j v0)=(fA,b_):=by rw[←iE.out];exact iU
     have HVL:=hid (show fA.length≤1000 from by have:=Mg (Lf:=ca) (E:=r2 l.tb dt eg) (rs:=m.rs) (nb:=cI) (o' (gg j m.rs)) (List.replicate j v0);rw[Hc]at this;simp at this;omega);replace t0:=qE.ad J t0;have oW:=bd J qE.size;obtain⟨nE,gf,rfl,-⟩:=id dZ;generalize eg.length=nvs at*;have c6:(i:Int)<ew:=by omega
     have ns:(i:Int)+1≤9223372036854775807:=by omega
     have lg:=dr.out wr bj.two;have bN:=lg.1.cell;have h5:=lg.1.lt;have eQ:=lg.2.1.cell;have ev:=lg.2.1.lt;have qe:=hid qE;have HVV:=hid dZ;clear B3 aG iU ai lg qE dZ;go_upto_region 12 with fail
     have bX:=(aQ wr).alloc (.cells #[dt,.slice nE nvs gf,aR,aR,aR,.slice cU dh cW] 98);have M0:=ao.new wr 98 #[dt,.slice nE nvs gf,aR,aR,aR,.slice cU dh cW];have Lp:=qe.out.size;have Df:=hid (bj.keep bX);have KQ:=bj.two.size;clear bN h5 eQ ev t0 oW;generalize wr.alloc (.cells #[dt,.slice nE nvs gf,aR,aR,aR,.slice cU dh cW] 98)=V at*;generalize K7:wr.heap.size=p at*;have xH:=hid (fun (X:World) (h:Kept V X)=>TE.out X (qe.out.trans (bX.trans h)) p _ eg i HVV.out (M0.kept h) (by omega));rw[Hc]at xH;dsimp only at xH;have S5:=hid M0;have jk:=hid bX;have hpV:p<V.heap.size:=M0.lt;have A_:=hid K7;clear K7;have ej:=hid (show∀X,Kept wr X→Kept wr X∧X.cell? ⟨P,5,none⟩=some (.string Ii)∧X.cell? ⟨P,6,none⟩=some (.int .i64 Ih)∧X.cell? ⟨P,7,none⟩=some (.slice l2 Zu mf)∧X.cell? ⟨P,8,none⟩=some (.slice lY j jF)∧X.cell? ⟨P,9,none⟩=some (.slice sx Zv k7)∧X.cell? ⟨P,11,none⟩=some (.slice fR LN LN)from fun X h=>have J:=FV.out.kept (qe.out.trans h);⟨h,J.cell 5,J.cell 6,J.cell 7,J.cell 8,J.cell 9,J.cell 11⟩);have hPV:P<V.heap.size:=(FV.out.kept (qe.out.trans bX)).lt;obtain⟨-,p9,L6,L7,an0,an1,q11⟩:=ej.out V bX;have HN9:=hid ns;have qf:=hid (show acc.length≤999∧acc.length<ew from by omega);have HII:=hid c6;have zq:=hid (And.intro Lp (And.intro KQ (And.intro Ed D7)));clear ns c6 Lp KQ Ed D7 gR Lm qK KG;have QH:=jk.out.size;go_cut [18,19] (fun Fs eK bt=>∃(u:Value) (g3 H:Nat) (a b d:Int),Fs=u∧eK= .pointer (some ⟨g3,0,none⟩)∧V.heap.size≤H∧wh V p g3 H dt (.slice nE nvs gf) aR aR (.slice cU dh cW) u fA b_ a b d j bt)
     case first=>
      go_region_held3 (fun X=>Kept wr X∧X.cell? ⟨P,5,none⟩=some (.string Ii)∧X.cell? ⟨P,6,none⟩=some (.int .i64 Ih)∧X.cell? ⟨P,7,none⟩=some (.slice l2 Zu mf)∧X.cell? ⟨P,8,none⟩=some (.slice lY j jF)∧X.cell? ⟨P,9,none⟩=some (.slice sx Zv k7)∧X.cell? ⟨P,11,none⟩=some (.slice fR LN LN))
       ((refine ej.out _ ?_;(with_reducible repeat (first|exact .refl _|assumption|refine .drew ?_|refine .alloc ?_ _|refine .setCell ?_ (by simp only;omega) _|refine .trans ?_ ‹Kept _ _›))))
       ((go_at_call 37;refine (xH.out _ ?_).mono ?_;(·(with_reducible repeat (first|exact .refl _|assumption|refine .drew ?_|refine .alloc ?_ _|refine .setCell ?_ (by simp only;omega) _|refine .trans ?_ ‹Kept _ _›)));rintro e w' ⟨u,wQ,gn,j5,rfl,o4,uc⟩;have F1:=hid o4;have FX:=hid uc;have gC:Kept wr w':=o4.kept (by (with_reducible repeat (first|exact .refl _|assumption|refine .drew ?_|refine .alloc ?_ _|refine .setCell ?_ (by simp only;omega) _|refine .trans ?_ ‹Kept _ _›))) (Nat.le_of_eq A_.out);(try (have bM:=o4.fD (ao.drew (ao.new V 46 #[(),(),(),()])) (by omega);have j9:=bM.cell;have ke:=bM.frozen;have rN:=bM.lt));have mb:=o4.size;(try simp at mb);clear o4 uc))
      ·go_wp2_with fail
       go_meet
       case rel=>exact⟨_,_,_,wQ,gn,j5,rfl,rfl,Nat.le_refl _,wh.after (X:=V.drew) (Two.iZ (Kept.drew (aQ V))) F1.out FX.out⟩
      ·go_wp2_with fail
       go_meet
       case rel=>exact⟨_,V.heap.size,_,wQ,gn,j5,rfl,rfl,by simp,wh.before (Two.iZ ((by with_reducible repeat first|exact .refl _|assumption|refine .drew ?_|refine .alloc ?_ _|refine .setCell ?_ (by (try simp only);omega) _|refine .trans ?_ ‹Kept _ _›))) (Nat.le_refl _) (by omega) bM (by simp) F1.out FX.out⟩
     case rest=>
     obtain⟨u,g3,H,a,bc,d,rfl,rfl,WJ,hC⟩:=hcut;generalize wc=hN at*;have bI:=hid hC;have P9:Kept wr hN:=hC.2.1.kept jk.out (Nat.le_of_eq A_.out);have zk:=hid (bj.keep P9);have uP:=hid (qe.out.trans P9);have fv:=dr.out hN zk.out.two;have a1:=hC.1.cell;have dz:=hC.1.lt;have D7:=M_.out;obtain⟨Lp,KQ,Ed,-⟩:=zq.out;clear p9 L6 L7 an0 an1 q11 ej xH hC;by_cases kC:b_=0
     case neg=>
      have hh:(b_ !=0)=true:=by simpa using kC
      have cv:=hid (show u_=([],b_)from by
       have h:=dd.out;rw[if_pos kC]at h;rw[←lG.out];unfold x';dsimp only;rw[←h];exact if_pos kC)
      have M5:=hid kC;have l9:w.heap.size+4<g3:=by have:=bI.out.2.2.1;omega
      clear kC;obtain⟨ST,gp⟩:∃S:List ia,S=[(3,w.heap.size+1+1,95,#[.slice none 0 0,.slice none 0 0,.slice none 0 0]),(4,w.heap.size+1+1+1,98,#[.int .i64 0,.slice none 0 0,.slice none 0 0,.slice none 0 0,.slice none 0 0,.slice none 0 0]),(5,w.heap.size+1+1+1+1,46,#[.int .i64 b_,.int .i64 a,.int .i64 bc,.int .i64 d])]:=⟨_,rfl⟩;have ep:=hid (show na [(3,w.heap.size+1+1,95,#[aR,aR,aR]),(4,w.heap.size+1+1+1,98,#[(),aR,aR,aR,aR,aR]),(5,w.heap.size+1+1+1+1,46,#[.int .i64 b_,a,bc,d])]from by unfold na;simp);have fM:=hid (show∀s∈([(3,w.heap.size+1+1,95,#[aR,aR,aR]),(4,w.heap.size+1+1+1,98,#[(),aR,aR,aR,aR,aR]),(5,w.heap.size+1+1+1+1,46,#[.int .i64 b_,a,bc,d])]:List ia),∃cs,ao hN s.2.1 s.2.2.1 cs∧cs.size=s.2.2.2.size from by
       intro s ax;simp only[List.mem_cons,List.not_mem_nil,or_false]at ax;rcases ax with rfl|rfl|rfl
       ·exact⟨_,fv.2.2.1,rfl⟩
       ·exact⟨_,fv.2.2.2.1,rfl⟩
       ·exact⟨_,fv.2.2.2.2,rfl⟩)
      have iF:=hid (show∀s∈([(3,w.heap.size+1+1,95,#[aR,aR,aR]),(4,w.heap.size+1+1+1,98,#[(),aR,aR,aR,aR,aR]),(5,w.heap.size+1+1+1+1,46,#[.int .i64 b_,a,bc,d])]:List ia),w.heap.size≤s.2.1∧s.2.1≤w.heap.size+4 from by
       intro s ax;simp only[List.mem_cons,List.not_mem_nil,or_false]at ax;rcases ax with rfl|rfl|rfl<;>simp only<;>omega)
      have ga:=hid (fun (g o:Nat) (v:Value) (ai:w.heap.size+4<g) (aq:g<hN.heap.size) (ah:hN.cell? ⟨g,o,none⟩=some v)=>dc.cell (W0:=hN) (n:=6) (S:=[(3,w.heap.size+1+1,95,#[aR,aR,aR]),(4,w.heap.size+1+1+1,98,#[(),aR,aR,aR,aR,aR]),(5,w.heap.size+1+1+1+1,46,#[.int .i64 b_,a,bc,d])]) (b:=g) (o:=o) (v:=v) (fun s ax=>by have:=(iF.out s ax).2;omega) aq ah);rw[←gp]at ep fM iF ga;have NE:Nonempty (dc hN 6 ST):=dc.ne fM.out;go_upto_region 14 with fail
      have bZ:=ga.out g3 0 _ l9 dz (a1 0);have b3:=ga.out g3 1 _ l9 dz (a1 1);have cT:=ga.out g3 2 _ l9 dz (a1 2);have ha:=ga.out g3 3 _ l9 dz (a1 3);refine v_ (C:=gl hN 6 ST) (by kernel_rfl) (by kernel_rfl) (by kernel_rfl) (fun _ _ h=>h.sZ) (gl.start fM.out) ?_;refine lu [_,_,_] [_,_,_] 0 _ rfl (by subst gp;simp) ?_
      repeat (go_big_quiet_step (exact rfl))
      refine wpQuiet_nil ?_;subst gp;refine nx (g:=w.heap.size+1+1) (T:=95) (cs:=[.slice none 0 0,.slice none 0 0,.slice none 0 0]) (by simp) (ep.out.apart _ (by simp)) rfl rfl rfl rfl rfl (by kernel_rfl) rfl ?_;refine nx (g:=w.heap.size+1+1+1) (T:=98) (cs:=[.int .i64 0,.slice none 0 0,.slice none 0 0,.slice none 0 0,.slice none 0 0,.slice none 0 0]) (by simp) (ep.out.apart _ (by simp)) rfl rfl rfl rfl rfl (by kernel_rfl) rfl ?_;refine nx (g:=w.heap.size+1+1+1+1) (T:=46) (cs:=[.int .i64 b_,a,bc,d]) (by simp) (ep.out.apart _ (by simp)) rfl rfl rfl rfl rfl (by kernel_rfl) rfl ?_;refine vN ?_;intro wC hZ jq fi;have mT:=fi.new jq (s:=(3,_,_,_)) (by simp;exact⟨rfl,rfl,rfl⟩) (by simp only;omega);have z9:=fi.new jq (s:=(4,_,_,_)) (by simp;exact⟨rfl,rfl,rfl⟩) (by simp only;omega);have te:=fi.new jq (s:=(5,_,_,_)) (by simp;exact⟨rfl,rfl,rfl⟩) (by simp only;omega);have hL:=hid (fi.kept uP.out (fun s ax=>(iF.out s ax).1));go_wp2_with fail
      have wb:=mT.cell;have IT:=z9.cell;have uI:=te.cell;exact bodyPost_ret (v:= .tuple #[.agg #[aR,aR,aR],.agg #[(),aR,aR,aR,aR,aR],.agg #[.int .i64 b_,a,bc,d]]) (by simp[results,results23,go_sem,wb,IT,uI]) rfl (Vx cv.out M5.out hL.out)
     subst kC;have Nt:=hid (show kI ca l.tb dt m cI (mem.drop (i+1)) (acc++[fA])=kI ca l.tb dt m cI mem []from by
      have h:=dd.out;rwa [if_neg (fun h=>h rfl)]at h)
     obtain⟨b6,dF,az,a6,b7,fh,hr,sH⟩:=bI.out.2.2.2 rfl;obtain⟨iO,iT,rfl,-⟩:=id a6;obtain⟨j1,hj,rfl,-⟩:=id b7;obtain⟨us,g1,g2,VL⟩:=zk.out.yB;have dT:=g2;obtain⟨uW,vO,rfl⟩:=il g2;obtain⟨xs,af⟩:=zk.out.ro;obtain⟨u',yO,rfl⟩:=il af;have F3:=hid (show us.length≤1000 from by rw[g1];have:=qf.out;omega);have sk:=hid g2;have bn:=hid af;have q_:=hid a6;have HUF:=hid (show∀b,Value.ownBlock (.slice iO fA.length iT)=some b→e8.heap.size≤b∧b<hN.heap.size∧Value.ownBlock (.slice uW us.length vO)≠some b∧Value.ownBlock (.slice u' acc.length yO)≠some b from fun b J=>by
      obtain⟨aO,aN,cK⟩:=hr b J;have rL:=bj.Zc;have amj:=jk.out.size;exact⟨by omega,aN,fun h=>by have:=rL.1 b h;omega,fun h=>by have:=rL.2 b h;omega⟩)
     have NA:=hid az;have q7:=hid (fun (w':World) (o:Obj) (v':Value)=>zk.out.Od (w':=w') (o:=o) (v':=v') (Nat.le_refl _) q_.out HVL.out HUF.out g1 VL);have p8:=NA.out.cell;have pl:=NA.out.lt;have gZ:=zk.out.gn.cell;have el:=zk.out.gn.lt;have hmp:Value.ownBlock (.slice uW us.length vO)≠some p:=fun h=>by have:=bj.Zc.1 p h;have:=A_.out;omega
     have hpE:p≠E:=by have:=A_.out;omega
     have ale:e8.heap.size≤hN.heap.size:=zk.out.two.size;have hpR:p≠E+1:=by have:=A_.out;omega
     have hRr:∀(w':World),True:=fun _=>trivial;have jz:=hid js;clear az a6 b7 fh hr sH dT g1 g2 VL js af bj P9 fv WJ Lp KQ hRr;generalize fA.length=kj at*;go_upto_region 16 with (at_builtin;go_loud (refine wpList_append_lies _ rfl (.tmp 81) (.tmp 84) 32 rfl e8.heap.size 31 ij aR 1 24 underlying32 hS hT hU hV rfl (by decide) _ us.length (us.flatMap AP) rfl (by have:=c3.alloc sk.out (.cells #[.slice iO kj iT] 31);unfold c3 at this;exact this) ⟨hN.heap.size,0,none⟩ 1 1 (AP (.slice iO kj iT)) rfl rfl (cell_one_new _ _ _) (by intro x af;simp[AP]at af;subst af;rfl) (by decide) (by have:=F3.out;unfold maxLen;omega) (by have:=F3.out;omega) (by simp;omega) _ rfl ?_);intro aO aN w1 I U ae aJ;have dW:=hid (q7.out _ _ _ I U (ae.imp (fun h=>h.symm) (fun h=>by rw[h];rfl)));obtain⟨df,-,tf⟩:=zk.out.E5 U;have FW:=hid (BB (E:=E) (i:=3) (v:= .slice (some ⟨aO,0,none⟩) (us.length+1) aN) (x2 NA.out df hmp) hpE);clear I U ae aJ df gZ el;have gZ:=tf.cell;have el:=tf.lt;have anK:=tf.frozen)
     generalize hW9:w1.setCell ⟨E,3,none⟩ (.slice (some ⟨aO,0,none⟩) (us.length+1) aN)=nd at*;clear gZ el anK tf p8 pl hW9 a1 dz;have p8:=FW.out.cell;have pl:=FW.out.lt;have rc:=dW.out.fz.cell;have rl':=dW.out.fz.lt;obtain⟨xs2,cj⟩:=dW.out.ro;have Ju:=hid cj;have alf:e8.heap.size≤nd.heap.size:=dW.out.two.size;clear cj;have ns:=HN9.out;go_wp2_with (at_builtin;go_loud (refine wpList_append_lies _ rfl (.tmp 88) (.tmp 93) 93 rfl e8.heap.size 136 mH (.agg #[aR,aR]) 2 48 underlying93 Lw kz0 kz1 kz2 rfl (by decide) _ acc.length xs2 rfl (World.ownsRow.alloc Ju.out _) ⟨nd.heap.size,0,none⟩ 1 1 [.slice iO kj iT,.slice j1 dF.length hj] rfl rfl (zK (l:=[.slice iO kj iT,.slice j1 dF.length hj])) (by intro x af;simp at af;rcases af with rfl|rfl<;>rfl) (by decide) (by have:=qf.out;unfold maxLen;omega) (by have:=qf.out;omega) (by simp;omega) _ rfl ?_);intro q1' q2' w2 I U ae aJ;have ji:=hid (dW.out.Oe (by simp) Ju.out I U (ae.imp (fun h=>h.symm) (fun h=>by rw[h];rfl)) (Nat.le_refl _));have tf:=dW.out.E5 U;clear I U ae aJ rc rl';have rc:=tf.cell;have rl':=tf.lt;have am7:=tf.frozen)
     go_roundw
     case rel=>
      exact⟨i+1,acc++[fA],_,_,by go_num,by have:=qf.out.2;have:=jz.out;omega,ji.out,by simp[jz.out],Nt.out⟩
     case measure=>
      have U:=qf.out.2;have ae:=jz.out;simp[intOf];omega
    ·obtain rfl:i=ew:=by omega
     have c6:¬((i:Int)<i):=by omega
     have Nt:=hid (show kI ca l.tb dt m cI mem []=(acc,0)from by
      rw[←aG,List.drop_eq_nil_iff.2 (by rw[kQ.out];exact Nat.le_refl _)];rfl)
     obtain⟨fA,b_,iU⟩:∃fA b_,nC ca (vk l m ⟨dt,ins,mem⟩ acc) s nb=(fA,b_):=⟨_,_,rfl⟩;have cv:=hid (show u_=(fA,b_)from by
      rw[←lG.out,←iU];unfold x';dsimp only;rw[Nt.out];exact if_neg (fun h=>h rfl))
     have Hc:iL ca (vk l m ⟨dt,ins,mem⟩ acc) s.rs nb (o' (gg snd s.rs)) (List.replicate snd v0)=(fA,b_):=by rw[←ab0.out];exact iU
     obtain⟨us,g1,g2,-⟩:=bj.yB;obtain⟨uW,vO,rfl⟩:=il g2;obtain⟨xs,af⟩:=bj.ro;obtain⟨u',yO,rfl⟩:=il af;have PK:=bj.two.size;have Yb:l3 e8 wr (fun b=>b≠E∧b≠E+1):=fun b J aL=>bj.two.block b J aL.1 (by simp;omega);have sr:=hid (vX ch.out.row Yb (fun b J=>by have:=(World.ownsRow.lt ch.out.row b J).1;omega));have xH:=hid (fun (X:World) (h:Kept wr X)=>A5.out X (qE.trans h) E _ _ acc (bj.gn.kept h) (by omega) (fun w' hw=>wD.ag0 (wD.stays (bj.yB.stays (Lv h fun _=>True) (fun _ _=>trivial)) (ok:=fun b=>b≠E) (fun b J aL=>hw.block b J aL (by simp)) (fun b J=>by omega)))
      (fun w' hw=>c3.yL My (vX (vX sr.out (Lv h fun _=>True) (fun _ _=>trivial)) (ok:=fun b=>b≠E) (fun b J aL=>hw.block b J aL (by simp)) (fun b J=>by have:=(World.ownsRow.lt sr.out b J).1;omega))))
     rw[Hc]at xH;dsimp only at xH;have qe:=hid qE;have Bm:=hid bj;have hPV:P<wr.heap.size:=(FV.out.kept qE).lt;have hEV:E<wr.heap.size:=bj.gn.lt;have ej:=hid (show∀X,Kept w X→Kept w X∧X.cell? ⟨P,0,none⟩=some (.string IC)∧X.cell? ⟨P,1,none⟩=some (.int .i64 IB)∧X.cell? ⟨P,2,none⟩=some (.slice gN sni gS)∧X.cell? ⟨P,3,none⟩=some (.slice fo snd fS)∧X.cell? ⟨P,4,none⟩=some (.slice eC snr rc)∧X.cell? ⟨P,10,none⟩=some (.slice (some ⟨D,0,none⟩) LP LP)from fun X h=>have J:=FV.out.kept h;⟨h,J.cell 0,J.cell 1,J.cell 2,J.cell 3,J.cell 4,J.cell 10⟩);obtain⟨-,eb,aO,aN,cK,dA,q10⟩:=ej.out wr qE;generalize us.length=AA at*;generalize acc.length=CG at*;have zq:=hid (And.intro Ed (And.intro D7 PK));have QH:w.heap.size≤wr.heap.size:=qE.size;clear aG iU Hc bj g1 g2 af Yb js de gR Lm qK KG Ed D7 PK c6;go_upto_region 18 with fail
     go_cut [20,21] (fun Fs eK bt=>∃(u:Value) (g3 H:Nat) (a b d:Int),Fs=u∧eK= .pointer (some ⟨g3,0,none⟩)∧wr.heap.size≤H∧wh wr E g3 H dt (.slice dS b1 gP) (.slice uW AA vO) (.slice At ki gX) (.slice cU dh cW) u fA b_ a b d snd bt)
     case first=>
      go_region_held3 (fun X=>Kept w X∧X.cell? ⟨P,0,none⟩=some (.string IC)∧X.cell? ⟨P,1,none⟩=some (.int .i64 IB)∧X.cell? ⟨P,2,none⟩=some (.slice gN sni gS)∧X.cell? ⟨P,3,none⟩=some (.slice fo snd fS)∧X.cell? ⟨P,4,none⟩=some (.slice eC snr rc)∧X.cell? ⟨P,10,none⟩=some (.slice (some ⟨D,0,none⟩) LP LP))
       ((refine ej.out _ ?_;(with_reducible repeat (first|exact .refl _|assumption|refine .drew ?_|refine .alloc ?_ _|refine .setCell ?_ (by simp only;omega) _|refine .trans ?_ ‹Kept _ _›))))
       ((go_at_call 37;refine (xH.out _ ?_).mono ?_;(·(with_reducible repeat (first|exact .refl _|assumption|refine .drew ?_|refine .alloc ?_ _|refine .setCell ?_ (by simp only;omega) _|refine .trans ?_ ‹Kept _ _›)));rintro e w' ⟨u,wQ,gn,j5,rfl,o4,uc⟩;have F1:=hid o4;have FX:=hid uc;have gC:Kept w w':=o4.kept (by (with_reducible repeat (first|exact .refl _|assumption|refine .drew ?_|refine .alloc ?_ _|refine .setCell ?_ (by simp only;omega) _|refine .trans ?_ ‹Kept _ _›))) (by omega);(try (have bM:=o4.fD (ao.drew (ao.new wr 46 #[(),(),(),()])) (by omega);have j9:=bM.cell;have ke:=bM.frozen;have rN:=bM.lt));have mb:=o4.size;(try simp at mb);clear o4 uc))
      ·go_wp2_with fail
       go_meet
       case rel=>exact⟨_,_,_,wQ,gn,j5,rfl,rfl,Nat.le_refl _,wh.after (X:=wr.drew) (Two.iZ (Kept.drew (aQ wr))) F1.out FX.out⟩
      ·go_wp2_with fail
       go_meet
       case rel=>exact⟨_,wr.heap.size,_,wQ,gn,j5,rfl,rfl,by simp,wh.before (Two.iZ ((by with_reducible repeat first|exact .refl _|assumption|refine .drew ?_|refine .alloc ?_ _|refine .setCell ?_ (by (try simp only);omega) _|refine .trans ?_ ‹Kept _ _›))) (Nat.le_refl _) (by omega) bM (by simp) F1.out FX.out⟩
     case rest=>
     obtain⟨u,g3,H,a,bc,d,rfl,rfl,WJ,hC⟩:=hcut;generalize wc=hN at*;have bI:=hid hC;obtain⟨Ed,D7,PK⟩:=zq.out;have uP:=hid (hC.2.1.kept qe.out (by omega));have fv:=dr.out hN (Bm.out.two.trans (ajX hC.2.1) (.inl rfl));have a1:=hC.1.cell;have dz:=hC.1.lt;have oU:=hid hC.2.1;clear eb aO aN cK dA q10 ej xH hC hD;by_cases kC:b_=0
     case neg=>
      have hh:(b_ !=0)=true:=by simpa using kC
      have M5:=hid kC;have l9:w.heap.size+4<g3:=by have:=bI.out.2.2.1;omega
      clear kC;obtain⟨ST,gp⟩:∃S:List ia,S=[(3,w.heap.size+1+1,95,#[.slice none 0 0,.slice none 0 0,.slice none 0 0]),(4,w.heap.size+1+1+1,98,#[.int .i64 0,.slice none 0 0,.slice none 0 0,.slice none 0 0,.slice none 0 0,.slice none 0 0]),(5,w.heap.size+1+1+1+1,46,#[.int .i64 b_,.int .i64 a,.int .i64 bc,.int .i64 d])]:=⟨_,rfl⟩;have ep:=hid (show na [(3,w.heap.size+1+1,95,#[aR,aR,aR]),(4,w.heap.size+1+1+1,98,#[(),aR,aR,aR,aR,aR]),(5,w.heap.size+1+1+1+1,46,#[b_,a,bc,d])]from by unfold na;simp);have fM:=hid (show∀s∈([(3,w.heap.size+1+1,95,#[aR,aR,aR]),(4,w.heap.size+1+1+1,98,#[(),aR,aR,aR,aR,aR]),(5,w.heap.size+1+1+1+1,46,#[b_,a,bc,d])]:List ia),∃cs,ao hN s.2.1 s.2.2.1 cs∧cs.size=s.2.2.2.size from by
       intro s ax;simp only[List.mem_cons,List.not_mem_nil,or_false]at ax;rcases ax with rfl|rfl|rfl
       ·exact⟨_,fv.2.2.1,rfl⟩
       ·exact⟨_,fv.2.2.2.1,rfl⟩
       ·exact⟨_,fv.2.2.2.2,rfl⟩)
      have iF:=hid (show∀s∈([(3,w.heap.size+1+1,95,#[aR,aR,aR]),(4,w.heap.size+1+1+1,98,#[(),aR,aR,aR,aR,aR]),(5,w.heap.size+1+1+1+1,46,#[b_,a,bc,d])]:List ia),w.heap.size≤s.2.1∧s.2.1≤w.heap.size+4 from by
       intro s ax;simp only[List.mem_cons,List.not_mem_nil,or_false]at ax;rcases ax with rfl|rfl|rfl<;>simp only<;>omega)
      have ga:=hid (fun (g o:Nat) (v:Value) (ai:w.heap.size+4<g) (aq:g<hN.heap.size) (ah:hN.cell? ⟨g,o,none⟩=some v)=>dc.cell (W0:=hN) (n:=6) (S:=[(3,w.heap.size+1+1,95,#[aR,aR,aR]),(4,w.heap.size+1+1+1,98,#[(),aR,aR,aR,aR,aR]),(5,w.heap.size+1+1+1+1,46,#[b_,a,bc,d])]) (b:=g) (o:=o) (v:=v) (fun s ax=>by have:=(iF.out s ax).2;omega) aq ah);rw[←gp]at ep fM iF ga;have NE:Nonempty (dc hN 6 ST):=dc.ne fM.out;go_upto_region 20 with fail
      have bZ:=ga.out g3 0 _ l9 dz (a1 0);have b3:=ga.out g3 1 _ l9 dz (a1 1);have cT:=ga.out g3 2 _ l9 dz (a1 2);have ha:=ga.out g3 3 _ l9 dz (a1 3);refine v_ (C:=gl hN 6 ST) (by kernel_rfl) (by kernel_rfl) (by kernel_rfl) (fun _ _ h=>h.sZ) (gl.start fM.out) ?_;refine lu [_,_,_] [_,_,_] 0 _ rfl (by subst gp;simp) ?_
      repeat (go_big_quiet_step (exact rfl))
      refine wpQuiet_nil ?_;subst gp;refine nx (g:=w.heap.size+1+1) (T:=95) (cs:=[.slice none 0 0,.slice none 0 0,.slice none 0 0]) (by simp) (ep.out.apart _ (by simp)) rfl rfl rfl rfl rfl (by kernel_rfl) rfl ?_;refine nx (g:=w.heap.size+1+1+1) (T:=98) (cs:=[.int .i64 0,.slice none 0 0,.slice none 0 0,.slice none 0 0,.slice none 0 0,.slice none 0 0]) (by simp) (ep.out.apart _ (by simp)) rfl rfl rfl rfl rfl (by kernel_rfl) rfl ?_;refine nx (g:=w.heap.size+1+1+1+1) (T:=46) (cs:=[.int .i64 b_,a,bc,d]) (by simp) (ep.out.apart _ (by simp)) rfl rfl rfl rfl rfl (by kernel_rfl) rfl ?_;refine vN ?_;intro wC hZ jq fi;have mT:=fi.new jq (s:=(3,_,_,_)) (by simp;exact⟨rfl,rfl,rfl⟩) (by simp only;omega);have z9:=fi.new jq (s:=(4,_,_,_)) (by simp;exact⟨rfl,rfl,rfl⟩) (by simp only;omega);have te:=fi.new jq (s:=(5,_,_,_)) (by simp;exact⟨rfl,rfl,rfl⟩) (by simp only;omega);have hL:=hid (fi.kept uP.out (fun s ax=>(iF.out s ax).1));go_wp2_with fail
      have wb:=mT.cell;have IT:=z9.cell;have uI:=te.cell;exact bodyPost_ret (v:= .tuple #[.agg #[aR,aR,aR],.agg #[(),aR,aR,aR,aR,aR],.agg #[b_,a,bc,d]]) (by simp[results,results23,go_sem,wb,IT,uI]) rfl (Vx cv.out M5.out hL.out)
     subst kC;obtain⟨b6,dF,az,a6,b7,fh,hr,sH⟩:=bI.out.2.2.2 rfl;obtain⟨iO,iT,rfl,-⟩:=id a6;obtain⟨j1,hj,rfl,-⟩:=id b7;have HRL:=hid fh;have EK:l3 hN ((hN.setCell ⟨E+1,0,none⟩ (.slice iO fA.length iT)).setCell ⟨E+1,1,none⟩ (.slice j1 dF.length hj)) (fun b=>b≠E+1):=fun b _ aL=>(Below.heap_setCell _ ⟨E+1,1,none⟩ _ b aL).trans (Below.heap_setCell hN ⟨E+1,0,none⟩ _ b aL);have v9:=a6.stays EK (fun b J=>by have:=(hr b J).1;omega);have i9:=b7.stays EK (fun b J=>by have:=sH b J;omega);have HA:∀b,Value.ownBlock (.slice iO fA.length iT)=some b→w.heap.size+4<b:=fun b J=>by have:=(hr b J).1;omega
     have En:∀b,Value.ownBlock (.slice j1 dF.length hj)=some b→w.heap.size+4<b:=fun b J=>by have:=sH b J;omega
     have TV:=hid (fun (hZ:World) (df:l3 ((hN.setCell ⟨E+1,0,none⟩ (.slice iO fA.length iT)).setCell ⟨E+1,1,none⟩ (.slice j1 dF.length hj)) hZ (fun b=>w.heap.size+4<b))=>And.intro (v9.stays df HA) (i9.stays df En));have abO:=hid (And.intro (fun b (J:Value.ownBlock (.slice iO fA.length iT)=some b)=>(show w.heap.size≤b from by have:=HA b J;omega)) (fun b (J:Value.ownBlock (.slice j1 dF.length hj)=some b)=>(show w.heap.size≤b from by have:=En b J;omega)));generalize fA.length=kj at*;have aY:=oU.out.fD Bm.out.fz (by omega);obtain⟨gZ,el⟩:=az.p;obtain⟨rc,rl_,am7⟩:=aY.q;clear a6 b7 fh hr sH EK v9 i9 HA En;go_upto_region 23 with fail
     have By:=(aY.aP 0 (.slice iO kj iT)).aP 1 (.slice j1 dF.length hj);simp only[List.setIfInBounds_toArray,List.set_cons_zero,List.set_cons_succ]at By;have zV:E≠E+1:=by omega
     have tN:=(az.far (p:=⟨E+1,0,none⟩) zV (.slice iO kj iT)).far (p:=⟨E+1,1,none⟩) zV (.slice j1 dF.length hj);replace fv:=And.intro fv.1 (And.intro fv.2.1 (And.intro (BB (E:=E+1) (i:=1) (v:= .slice j1 dF.length hj) (BB (E:=E+1) (i:=0) (v:= .slice iO kj iT) fv.2.2.1 (by omega)) (by omega)) (And.intro (BB (E:=E+1) (i:=1) (v:= .slice j1 dF.length hj) (BB (E:=E+1) (i:=0) (v:= .slice iO kj iT) fv.2.2.2.1 (by omega)) (by omega)) (BB (E:=E+1) (i:=1) (v:= .slice j1 dF.length hj) (BB (E:=E+1) (i:=0) (v:= .slice iO kj iT) fv.2.2.2.2 (by omega)) (by omega)))));replace uP:=hid ((uP.out.setCell (p:=⟨E+1,0,none⟩) (by simp only;omega) (.slice iO kj iT)).setCell (p:=⟨E+1,1,none⟩) (by simp only;omega) (.slice j1 dF.length hj));clear gZ el rc rl_ am7 aY a1 dz az;generalize (hN.setCell ⟨E+1,0,none⟩ (.slice iO kj iT)).setCell ⟨E+1,1,none⟩ (.slice j1 dF.length hj)=nd at*;obtain⟨ST,gp⟩:∃S:List ia,S=[(3,w.heap.size+1+1,95,#[.slice iO kj iT,.slice j1 dF.length hj,.slice u' CG yO]),(4,w.heap.size+1+1+1,98,#[.int .i64 dt,.slice dS b1 gP,.slice iO kj iT,.slice uW AA vO,.slice At ki gX,.slice cU dh cW]),(5,w.heap.size+1+1+1+1,46,#[.int .i64 0,.int .i64 0,.int .i64 0,.int .i64 0])]:=⟨_,rfl⟩;have ep:=hid (show na [(3,w.heap.size+1+1,95,#[.slice iO kj iT,.slice j1 dF.length hj,.slice u' CG yO]),(4,w.heap.size+1+1+1,98,#[dt,.slice dS b1 gP,.slice iO kj iT,.slice uW AA vO,.slice At ki gX,.slice cU dh cW]),(5,w.heap.size+1+1+1+1,46,#[(),(),(),()])]from by unfold na;simp);have fM:=hid (show∀s∈([(3,w.heap.size+1+1,95,#[.slice iO kj iT,.slice j1 dF.length hj,.slice u' CG yO]),(4,w.heap.size+1+1+1,98,#[dt,.slice dS b1 gP,.slice iO kj iT,.slice uW AA vO,.slice At ki gX,.slice cU dh cW]),(5,w.heap.size+1+1+1+1,46,#[(),(),(),()])]:List ia),∃cs,ao nd s.2.1 s.2.2.1 cs∧cs.size=s.2.2.2.size from by
      intro s ax;simp only[List.mem_cons,List.not_mem_nil,or_false]at ax;rcases ax with rfl|rfl|rfl
      ·exact⟨_,fv.2.2.1,rfl⟩
      ·exact⟨_,fv.2.2.2.1,rfl⟩
      ·exact⟨_,fv.2.2.2.2,rfl⟩)
     have iF:=hid (show∀s∈([(3,w.heap.size+1+1,95,#[.slice iO kj iT,.slice j1 dF.length hj,.slice u' CG yO]),(4,w.heap.size+1+1+1,98,#[dt,.slice dS b1 gP,.slice iO kj iT,.slice uW AA vO,.slice At ki gX,.slice cU dh cW]),(5,w.heap.size+1+1+1+1,46,#[(),(),(),()])]:List ia),w.heap.size≤s.2.1∧s.2.1≤w.heap.size+4 from by
      intro s ax;simp only[List.mem_cons,List.not_mem_nil,or_false]at ax;rcases ax with rfl|rfl|rfl<;>simp only<;>omega)
     have ga:=hid (fun (g o:Nat) (v:Value) (ai:w.heap.size+4<g) (aq:g<nd.heap.size) (ah:nd.cell? ⟨g,o,none⟩=some v)=>dc.cell (W0:=nd) (n:=6) (S:=[(3,w.heap.size+1+1,95,#[.slice iO kj iT,.slice j1 dF.length hj,.slice u' CG yO]),(4,w.heap.size+1+1+1,98,#[dt,.slice dS b1 gP,.slice iO kj iT,.slice uW AA vO,.slice At ki gX,.slice cU dh cW]),(5,w.heap.size+1+1+1+1,46,#[(),(),(),()])]) (b:=g) (o:=o) (v:=v) (fun s ax=>by have:=(iF.out s ax).2;omega) aq ah);rw[←gp]at ep fM iF ga;have NE:Nonempty (dc nd 6 ST):=dc.ne fM.out;have bZ:=ga.out (E+1) 0 _ (by omega) By.lt (By.cell 0);have b3:=ga.out (E+1) 1 _ (by omega) By.lt (By.cell 1);have cT:=ga.out (E+1) 2 _ (by omega) By.lt (By.cell 2);have w0_:=ga.out E 0 _ (by omega) tN.lt (tN.cell 0);have w1_:=ga.out E 1 _ (by omega) tN.lt (tN.cell 1);have w2_:=ga.out E 2 _ (by omega) tN.lt (tN.cell 2);have w3_:=ga.out E 3 _ (by omega) tN.lt (tN.cell 3);have w4_:=ga.out E 4 _ (by omega) tN.lt (tN.cell 4);have w5_:=ga.out E 5 _ (by omega) tN.lt (tN.cell 5);refine v_ (C:=gl nd 6 ST) (by kernel_rfl) (by kernel_rfl) (by kernel_rfl) (fun _ _ h=>h.sZ) (gl.start fM.out) ?_;refine lu [_,_,_] [_,_,_] 0 _ rfl (by subst gp;simp) ?_
     repeat (go_big_quiet_step (exact rfl))
     refine wpQuiet_nil ?_;subst gp;refine nx (g:=w.heap.size+1+1) (T:=95) (cs:=[.slice iO kj iT,.slice j1 dF.length hj,.slice u' CG yO]) (by simp) (ep.out.apart _ (by simp)) rfl rfl rfl rfl rfl (by kernel_rfl) rfl ?_;refine nx (g:=w.heap.size+1+1+1) (T:=98) (cs:=[.int .i64 dt,.slice dS b1 gP,.slice iO kj iT,.slice uW AA vO,.slice At ki gX,.slice cU dh cW]) (by simp) (ep.out.apart _ (by simp)) rfl rfl rfl rfl rfl (by kernel_rfl) rfl ?_;refine nx (g:=w.heap.size+1+1+1+1) (T:=46) (cs:=[.int .i64 0,.int .i64 0,.int .i64 0,.int .i64 0]) (by simp) (ep.out.apart _ (by simp)) rfl rfl rfl rfl rfl (by kernel_rfl) rfl ?_;refine vN ?_;intro wC hZ jq fi;have mT:=fi.new jq (s:=(3,_,_,_)) (by simp;exact⟨rfl,rfl,rfl⟩) (by simp only;omega);have z9:=fi.new jq (s:=(4,_,_,_)) (by simp;exact⟨rfl,rfl,rfl⟩) (by simp only;omega);have te:=fi.new jq (s:=(5,_,_,_)) (by simp;exact⟨rfl,rfl,rfl⟩) (by simp only;omega);have hL:=hid (fi.kept uP.out (fun s ax=>(iF.out s ax).1));have EK:l3 nd hZ (fun b=>w.heap.size+4<b):=fun b J aL=>fi.block b J (fun s ax=>by have:=(iF.out s ax).2;omega);have abH:=hid (show Kz u_ snd w (.returned (.tuple #[.agg #[.slice iO kj iT,.slice j1 dF.length hj,.slice u' CG yO],.agg #[dt,.slice dS b1 gP,.slice iO kj iT,.slice uW AA vO,.slice At ki gX,.slice cU dh cW],.agg #[(),(),(),()]])) hZ from by
      rw[cv.out];exact⟨_,_,_,_,_,_,_,_,_,0,0,0,rfl,hL.out,fun _=>⟨(TV.out hZ EK).1,dF,(TV.out hZ EK).2,HRL.out⟩,fun _=>⟨rfl,rfl,rfl⟩,fun _=>abO.out,⟨⟨_,_,_,rfl⟩,⟨_,_,_,rfl⟩,⟨_,_,_,rfl⟩⟩,⟨_,rfl⟩,⟨_,_,_,rfl⟩,⟨_,_,_,rfl⟩,⟨_,_,_,rfl⟩,⟨_,_,_,rfl⟩,⟨_,_,_,rfl⟩⟩)
     go_wp2_with fail
     have wb:=mT.cell;have IT:=z9.cell;have uI:=te.cell;exact bodyPost_ret (v:= .tuple #[.agg #[.slice iO kj iT,.slice j1 dF.length hj,.slice u' CG yO],.agg #[dt,.slice dS b1 gP,.slice iO kj iT,.slice uW AA vO,.slice At ki gX,.slice cU dh cW],.agg #[(),(),(),()]]) (by simp[results,results23,go_sem,wb,IT,uI]) rfl abH.out
structure oi (l:cZ):Prop where
 aE:l.sc.length≤4
 all:∀i x,l.sc[i]?=some x→oh l i x
theorem adi (bT:Value) (l:cZ) (w:World) (bL:gy w bT l):Calls prog 40 #[bT] w (k1 (oi l) w):=by
 have tm:=hid (fun (i:Nat) (x:bP) (w1:World) (h:Kept w w1) (aE:l.sc[i]?=some x)=>adh bT l i x w1 (bL.kept h) aE);unfold lK at tm;obtain⟨c_,b4,b2,rfl,aj,I,U⟩:=bL;obtain⟨cY,fw,rfl,-⟩:=id aj;obtain⟨cU,cW,rfl,-⟩:=id I;obtain⟨jU,hP,rfl,-,Eo,-⟩:=id U;obtain⟨Q,cJ⟩:∃Q,Q=oi l:=⟨_,rfl⟩;rw[←cJ];have bz:=hid cJ;have dX:=hid (fun (h:¬oi l)=>(show¬Q from fun q=>h (bz.out▸q)));generalize l.bm.length=dN at*;generalize l.tb.length=dh at*;generalize lR:l.sc.length=aaa at*;have lF:=hid lR;clear aj I U cJ lR;go_enter func40,ntmps40
 go_upto_region 1 with fail
 generalize ar:(w.alloc _).alloc _=W at*;obtain⟨aW,aS,aT⟩:=Kept.a6 ar;clear ar;have dD:=hid (fun w1 (h:Kept W w1)=>aS.kept h);have dr:=hid (fun w1 (h:Kept W w1)=>aT.kept h);obtain⟨aC,a7⟩:=aS.p;clear aS aT;by_cases aA:4<aaa
 ·have oz:(4:Int)<aaa:=by omega
  have au:=hid (dX.out fun h=>by have:=h.aE;rw[lF.out]at this;omega);have bc:=dr.out _ (aQ _);obtain⟨aM,bx,f2⟩:=bc.q;have bq:=hid (mg bc aW (by omega) (.int .i64 4) (.int .i64 3) (.int .i64 4) ());clear aA bc;go_wp2_with fail
  have cu:=bq.out.1.cell;exact bodyPost_ret (v:= .agg #[.int .i64 4,.int .i64 3,.int .i64 4,()]) (by simp[results,results40,go_sem,cu]) rfl (k1.no (by decide) au.out bq.out.2)
 have oz:¬((4:Int)<aaa):=by omega
 have bk:=hid aA;clear aA;go_wp2_with fail
 clear aC a7;go_loopw [14] (fun z wr=>∃j:Nat,z= .int .i64 j∧j≤aaa∧Kept W wr∧∀k x,k<j→l.sc[k]?=some x→oh l k x) (fun z _=>aaa-(intOf z).toNat)
 case atStart=>exact⟨0,rfl,Nat.zero_le _,aQ _,fun _ _ h=>absurd h (Nat.not_lt_zero _)⟩
 case round=>
  obtain⟨j,rfl,gu,ab,j7⟩:=hrel;have cB:=hid j7;clear j7;by_cases aD:j<aaa
  ·have e4:l.sc[j]?=some (l.sc[j]'(by rw[lF.out];exact aD)):=a8 _;generalize sT:l.sc[j]'(by rw[lF.out];exact aD)=x at*;have jX:=hid e4;have bu:=aW.trans ab;have hE:(j:Int)<aaa:=by omega
   have pr:=hid (fun w1 (h:Kept wr w1)=>tm.out j x w1 (bu.trans h) e4);have fX:=hid bu;have az:=(dD.out _ ab).cell;have m1:=(dD.out _ ab).lt;have ns:(j:Int)+1≤9223372036854775807:=by have:=bk.out;omega
   clear e4 sT bu tm;go_upto_region 7 with (go_at_call 63;refine (pr.out _ (aQ _)).mono ?_;rintro fh eA ⟨c,d,rfl,lM,gB,l8,cG⟩;have ir:=hid lM;clear lM)
   have eO:=hid (cG);clear pr az m1;by_cases fT:c=0
   ·have fF:=ir.out.1 fT;subst fT;have hc:=hid (show∀k x,k<j+1→l.sc[k]?=some x→oh l k x from fun k IQ aa hm=>by
     rcases Nat.lt_succ_iff_lt_or_eq.1 aa with h|rfl
     ·exact cB.out k IQ h hm
     ·have he:=jX.out.symm.trans hm
      cases he;exact fF)
    clear fF ir;go_wp2_with fail
    go_roundw
    case rel=>exact⟨j+1,by go_num,aD,ab.trans eO.out,hc.out⟩
    case measure=>simp[intOf];omega
   ·have hh:(c !=0)=true:=by simpa using fT
    have au:=hid (dX.out fun h=>fT (ir.out.2 (h.all j x jX.out)));have C1:=hid fT;have bc:=dr.out _ (ab.trans eO.out);obtain⟨aM,bx,f2⟩:=bc.q;have bq:=hid (mg bc (fX.out.trans eO.out) (by omega) c (.int .i64 3) j d);clear fT bc ir;go_wp2_with fail
    have cu:=bq.out.1.cell;exact bodyPost_ret (v:= .agg #[c,.int .i64 3,j,d]) (by simp[results,results40,go_sem,cu]) rfl (k1.no C1.out au.out bq.out.2)
  ·obtain rfl:j=aaa:=by omega
   have hE:¬((j:Int)<j):=by omega
   have au:=hid (show Q from bz.out▸⟨by rw[lF.out];have:=bk.out;omega,fun k x hm=>cB.out k x (by rw[←lF.out];exact (b8 hm).1) hm⟩);have bc:=dr.out _ ab;obtain⟨aM,bx,f2⟩:=bc.q;have bq:=hid (mg bc (aW.trans ab) (by omega) () () () ());clear bc;go_wp2_with fail
   have cu:=bq.out.1.cell;exact bodyPost_ret (v:= .agg #[(),(),(),()]) (by simp[results,results40,go_sem,cu]) rfl (k1.yes au.out bq.out.2)
structure oR (l:cZ):Prop where
 bm:A0 l.bm
 tb:Bs l.bm l.tb
 sc:oi l
theorem Q3 (bT:Value) (l:cZ) (w:World) (bL:gy w bT l):Calls prog 24 #[bT] w (k1 (oR l) w):=by
 have cv:=hid (fun w1 (h:Kept w w1)=>adf bT l w1 (bL.kept h));have ch:=hid (fun w1 (h:Kept w w1)=>adk bT l w1 (bL.kept h));have cD:=hid (fun w1 (h:Kept w w1)=>adi bT l w1 (bL.kept h));unfold k1 at cv ch cD;obtain⟨c_,b4,b2,rfl,aj,I,U⟩:=bL;obtain⟨cY,fw,rfl,-⟩:=id aj;obtain⟨cU,cW,rfl,-⟩:=id I;obtain⟨jU,hP,rfl,-⟩:=id U;obtain⟨Q,cJ⟩:∃Q,Q=oR l:=⟨_,rfl⟩;rw[←cJ];have bz:=hid cJ;have H1:=hid (show Q→A0 l.bm from fun q=>(bz.out▸q:oR l).bm);have sh:=hid (show Q→Bs l.bm l.tb from fun q=>(bz.out▸q:oR l).tb);have pq:=hid (show Q→oi l from fun q=>(bz.out▸q:oR l).sc);have hM:=hid (show A0 l.bm→Bs l.bm l.tb→oi l→Q from fun a b c=>bz.out▸⟨a,b,c⟩);generalize A0 l.bm=aO at*;generalize Bs l.bm l.tb=aN at*;generalize oi l=cK at*;generalize l.bm.length=dN at*;generalize l.tb.length=dh at*;generalize l.sc.length=aaa at*;clear aj I U cJ;go_enter func24,ntmps24
 go_upto_region 1 with fail
 generalize ar:(w.alloc _).alloc _=W at*;obtain⟨aW,aS,aT⟩:=Kept.a6 ar;clear ar;have dD:=hid (fun w1 (h:Kept W w1)=>aS.kept h);have dr:=hid (fun w1 (h:Kept W w1)=>aT.kept h);obtain⟨aC,a7⟩:=aS.p;clear aS aT;go_upto_region 2 with (go_at_call 38;refine (cv.out _ aW).mono ?_;rintro az w1 ⟨c,a,b,d,rfl,au,-,ak⟩;have Jp:=hid au;clear au)
 generalize ar:w1.alloc _=V at*;obtain⟨fq,bU⟩:=Kept.az ar;clear ar;have ek:=ak.trans fq;clear fq;obtain⟨a1,dz⟩:=bU.p;clear aC a7 bU;by_cases ah:c=0
 case neg=>
  have hh:(c !=0)=true:=by simpa using ah
  have au:=hid (show¬Q from fun q=>ah (Jp.out.2 (H1.out q)));have bI:=hid ah;have bc:=dr.out _ ek;obtain⟨aM,bx,f2⟩:=bc.q;have bq:=hid (mg bc (aW.trans ek) (by omega) c a b d);clear ah bc Jp;go_wp2_with fail
  have cu:=bq.out.1.cell;exact bodyPost_ret (v:= .agg #[c,a,b,d]) (by simp[results,results24,go_sem,cu]) rfl (k1.no bI.out au.out bq.out.2)
 have jJ:=hid (Jp.out.1 ah);subst ah;clear Jp;have aC:=(dD.out _ ek).cell;have a7:=(dD.out _ ek).lt;go_upto_region 5 with (go_at_call 39;refine (ch.out _ (aW.trans ek)).mono ?_;rintro a6 w2 ⟨c,d',ey,eR,rfl,au,-,a'⟩;have xK:=hid au;clear au)
 generalize ar:w2.alloc _=X at*;obtain⟨fq,ec⟩:=Kept.az ar;clear ar;have dc:=(ek.trans a').trans fq;clear fq;obtain⟨bN,h5⟩:=ec.p;clear aC a7 a1 dz ec;by_cases ah:c=0
 case neg=>
  have hh:(c !=0)=true:=by simpa using ah
  have au:=hid (show¬Q from fun q=>ah (xK.out.2 (sh.out q)));have bI:=hid ah;have bc:=dr.out _ dc;obtain⟨aM,bx,f2⟩:=bc.q;have bq:=hid (mg bc (aW.trans dc) (by omega) c d' ey eR);clear ah bc xK;go_wp2_with fail
  have cu:=bq.out.1.cell;exact bodyPost_ret (v:= .agg #[c,d',ey,eR]) (by simp[results,results24,go_sem,cu]) rfl (k1.no bI.out au.out bq.out.2)
 have jK:=hid (xK.out.1 ah);subst ah;clear xK;have aC:=(dD.out _ dc).cell;have a7:=(dD.out _ dc).lt;go_wp2_with (go_at_call 40;refine (cD.out _ (aW.trans dc)).mono ?_;rintro b7 cw ⟨bJ,a5,c9,d5,rfl,au,ck,bw⟩;have tz:=hid (And.intro au ck);clear au ck;have bc:=dr.out _ (dc.trans bw);have bx:=bc.lt;have f2:=bc.frozen;have aM:=bc.cell;have bq:=hid (mg bc (aW.trans (dc.trans bw)) (by omega) bJ a5 c9 d5);clear bc)
 have cu:=bq.out.1.cell;exact bodyPost_ret (v:= .agg #[bJ,a5,c9,d5]) (by simp[results,results24,go_sem,cu]) rfl ⟨bJ,a5,c9,d5,rfl,⟨fun h=>hM.out jJ.out jK.out (tz.out.1.1 h),fun q=>tz.out.1.2 (pq.out q)⟩,tz.out.2,bq.out.2⟩
def rl (l:cZ) (sc d:Int):Prop:=(0≤sc∧sc<l.sc.length)∧0≤d∧d<(l.sc[sc.toNat]?.getD iq).ds.length
noncomputable def qs (l:cZ) (sc:Int) (c:h9) (d:Int):Int:=
 @ite _ (oR l) (Classical.propDecidable _) (@ite _ (rl l sc d) (Classical.propDecidable _) (s' l.ms l.c1 sc c.d c.ins c.mem).2.2 6) 1
theorem Ux {l:cZ} {sc d:Int} {c:h9} (h:¬oR l):qs l sc c d=1:=by unfold qs;exact if_neg h
theorem Uy {l:cZ} {sc d:Int} {c:h9} (h:oR l) (U:¬rl l sc d):qs l sc c d=6:=by unfold qs;rw[if_pos h];exact if_neg U
theorem Gv {l:cZ} {sc d:Int} {c:h9} (h:oR l) (U:rl l sc d):qs l sc c d=(s' l.ms l.c1 sc c.d c.ins c.mem).2.2:=by unfold qs;rw[if_pos h];exact if_pos U
def sE (k:Int) (w:World) (e:Ending) (w':World):Prop:=∃a b d:Int,e= .returned (.agg #[k,a,b,d])∧(k=0→a=0∧b=0∧d=0)∧Kept w w'
theorem sE.mk {k x a b d:Int} {w w':World} (h:k=x) (aj:x≠0) (aa:Kept w w'):sE k w (.returned (.agg #[x,a,b,d])) w':=by
 subst h;exact⟨a,b,d,rfl,fun h=>absurd h aj,aa⟩
theorem sE.ok {k:Int} {w w':World} (h:k=0) (aa:Kept w w'):sE k w (.returned (.agg #[(),(),(),()])) w':=by
 subst h;exact⟨0,0,0,rfl,fun _=>⟨rfl,rfl,rfl⟩,aa⟩
theorem adn (bT pZ r4:Value) (l:cZ) (sc d:Int) (c:h9) (w:World) (bL:gy w bT l) (bC:ff w pZ c.ins) (br:ld w r4 c.mem) (fP:c.ins.length≤9223372036854775807):
  Calls prog 20 #[bT,sc,.agg #[c.d,pZ,r4],.bool true,d] w (sE (qs l sc c d) w):=by
 have eU:=hid (fun w1 (h:Kept w w1)=>Q3 bT l w1 (bL.kept h));have bI:=hid (fun w1 (h:Kept w w1)=>akl bT pZ r4 l.ms l.c1 sc c.d c.ins c.mem w1 (bL.kept h).Y2 (bC.kept h) fP (br.kept h));unfold k1 at eU;unfold Sl at bI;obtain⟨c_,b4,b2,rfl,aj,I,U⟩:=bL;obtain⟨cY,fw,rfl,-⟩:=id aj;obtain⟨cU,cW,rfl,-⟩:=id I;obtain⟨jU,hP,rfl,W4,Eo,pY⟩:=id U;obtain⟨dS,gP,rfl,-⟩:=id bC;obtain⟨eH,kY,rfl,-⟩:=id br;have oP:=hid (fun h=>Ux (l:=l) (sc:=sc) (d:=d) (c:=c) h);have Jo:=hid (fun h U=>Uy (l:=l) (sc:=sc) (d:=d) (c:=c) h U);have Nh:=hid (fun h U=>Gv (l:=l) (sc:=sc) (d:=d) (c:=c) h U);generalize qs l sc c d=R at*;obtain⟨dt,ins,mem⟩:=c;dsimp only at*;generalize s' l.ms l.c1 sc dt ins mem=N9 at*;obtain⟨e_,fm,gx⟩:=N9;dsimp only at bI Nh;have rk:=hid pY;have Bj:=hid (show rl l sc d→(0≤sc∧sc<l.sc.length)∧0≤d∧d<(l.sc[sc.toNat]?.getD iq).ds.length from fun h=>h);have sl:=hid (show (0≤sc∧sc<l.sc.length)∧0≤d∧d<(l.sc[sc.toNat]?.getD iq).ds.length→rl l sc d from fun h=>h);generalize rl l sc d=aoh at*;generalize oR l=aog at*;generalize l.bm.length=dN at*;generalize l.tb.length=dh at*;generalize lR:l.sc.length=aaa at*;have n':=hid lR;generalize ins.length=b1 at*;generalize mem.length=ew at*;clear aj I U pY bC br fP lR;go_enter func20,ntmps20
 go_upto_region 1 with fail
 generalize ar:((w.alloc _).alloc _).alloc _=W at*;obtain⟨aF,a_,aS,aT⟩:=Kept.b7 ar;clear ar;have wi:=hid (fun w1 (h:Kept W w1)=>a_.kept h);have dD:=hid (fun w1 (h:Kept W w1)=>aS.kept h);have dr:=hid (fun w1 (h:Kept W w1)=>aT.kept h);have cN:=hid aF;obtain⟨b5,cA⟩:=a_.p;clear a_ aS aT aF;go_upto_region 2 with (go_at_call 24;refine (eU.out _ cN.out).mono ?_;rintro az w1 ⟨x,a,b,e,rfl,au,-,ak⟩;have bz:=hid au;clear au)
 generalize ar:w1.alloc _=V at*;obtain⟨fq,bU⟩:=Kept.az ar;clear ar;have ek:=ak.trans fq;clear fq;obtain⟨a1,dz⟩:=bU.p;clear b5 cA bU;by_cases af:x=0
 case neg=>
  have rV:(x !=0)=true:=by simpa using af
  have aH:=hid (oP.out (fun q=>af (bz.out.2 q)));clear af;have bc:=dr.out _ ek;obtain⟨aM,bx,f2⟩:=bc.q;have bq:=hid (mg bc (cN.out.trans ek) (by omega) (.int .i64 1) (.int .i64 (-1)) (.int .i64 (-1)) (.int .i64 (-1)));clear bc;go_wp2_with fail
  have cu:=bq.out.1.cell;exact bodyPost_ret (v:= .agg #[.int .i64 1,.int .i64 (-1),.int .i64 (-1),.int .i64 (-1)]) (by simp[results,results20,go_sem,cu]) rfl (sE.mk aH.out (by decide) bq.out.2)
 have Cj:=hid (bz.out.1 af);subst af;have b5:=(wi.out _ ek).cell;have cA:=(wi.out _ ek).lt;by_cases o3:sc<0
 ·have aH:=hid (Jo.out Cj.out (fun q=>by have:=(Bj.out q).1;omega));have bc:=dr.out _ ek;obtain⟨aM,bx,f2⟩:=bc.q;have bq:=hid (mg bc (cN.out.trans ek) (by omega) (.int .i64 6) (.int .i64 (-1)) (.int .i64 (-1)) (.int .i64 (-1)));clear bc;go_wp2_with fail
  have cu:=bq.out.1.cell;exact bodyPost_ret (v:= .agg #[.int .i64 6,.int .i64 (-1),.int .i64 (-1),.int .i64 (-1)]) (by simp[results,results20,go_sem,cu]) rfl (sE.mk aH.out (by decide) bq.out.2)
 obtain⟨k,rfl⟩:=Int.eq_ofNat_of_zero_le (Int.not_lt.1 o3);by_cases n1:aaa≤k
 ·have aH:=hid (Jo.out Cj.out (fun q=>by have:=(Bj.out q).1;omega));have afx:(aaa:Int)≤k:=by omega
  clear n1 o3;have bc:=dr.out _ ek;obtain⟨aM,bx,f2⟩:=bc.q;have bq:=hid (mg bc (cN.out.trans ek) (by omega) (.int .i64 6) (.int .i64 (-1)) (.int .i64 (-1)) (.int .i64 (-1)));clear bc;go_wp2_with fail
  have cu:=bq.out.1.cell;exact bodyPost_ret (v:= .agg #[.int .i64 6,.int .i64 (-1),.int .i64 (-1),.int .i64 (-1)]) (by simp[results,results20,go_sem,cu]) rfl (sE.mk aH.out (by decide) bq.out.2)
 obtain⟨lg,o,rfl,J,ah⟩:=rk.out (by omega);have ai:l.sc[k]?=some (l.sc[k]'(by rw[n'.out];omega)):=a8 _;obtain⟨-,-,-,⟨b6,t3,b'⟩,-⟩:=ah k _ ai;have NH:=hid (fun q=>(Bj.out q).2);have Tl:=hid (fun (q:0≤d∧d<(l.sc[(k:Int).toNat]?.getD iq).ds.length)=>sl.out ⟨by omega,q⟩);rw[Int.toNat_natCast,ai,Option.getD_some]at NH Tl;generalize l.sc[k]'(by rw[n'.out];omega)=s at*;obtain⟨fo,fS,rfl,-⟩:=b';generalize s.ds.length=cS at*;unfold ed at t3;replace t3:=(cN.out.trans ek).ad J t3;have rI:=bd J (cN.out.trans ek).size;have jI:(k:Int)<aaa:=by omega
 clear ah ai o3;by_cases ll:d<0
 ·have aH:=hid (Jo.out Cj.out (fun q=>by have:=NH.out q;omega));clear n1;have bc:=dr.out _ ek;obtain⟨aM,bx,f2⟩:=bc.q;have bq:=hid (mg bc (cN.out.trans ek) (by omega) (.int .i64 6) (.int .i64 (-1)) (.int .i64 (-1)) (.int .i64 (-1)));clear bc;go_wp2_with fail
  have cu:=bq.out.1.cell;exact bodyPost_ret (v:= .agg #[.int .i64 6,.int .i64 (-1),.int .i64 (-1),.int .i64 (-1)]) (by simp[results,results20,go_sem,cu]) rfl (sE.mk aH.out (by decide) bq.out.2)
 by_cases gB:cS≤d
 ·have aH:=hid (Jo.out Cj.out (fun q=>by have:=NH.out q;omega));clear n1;have bc:=dr.out _ ek;obtain⟨aM,bx,f2⟩:=bc.q;have bq:=hid (mg bc (cN.out.trans ek) (by omega) (.int .i64 6) (.int .i64 (-1)) (.int .i64 (-1)) (.int .i64 (-1)));clear bc;go_wp2_with fail
  have cu:=bq.out.1.cell;exact bodyPost_ret (v:= .agg #[.int .i64 6,.int .i64 (-1),.int .i64 (-1),.int .i64 (-1)]) (by simp[results,results20,go_sem,cu]) rfl (sE.mk aH.out (by decide) bq.out.2)
 have de:=hid (Nh.out Cj.out (Tl.out ⟨by omega,by omega⟩));have aC:=(dD.out _ ek).cell;have a7:=(dD.out _ ek).lt;clear n1;go_upto_region 7 with (go_at_call 33;refine (bI.out _ (cN.out.trans ek)).mono ?_;rintro a6 w2 ⟨rfl,a'⟩)
 have dc:=ek.trans a';clear b5 cA aC a7 a1 dz t3 rI;by_cases ay:gx=0
 ·have aH:=hid (de.out.trans ay);subst ay;have bc:=dr.out _ dc;obtain⟨aM,bx,f2⟩:=bc.q;have bq:=hid (mg bc (cN.out.trans dc) (by omega) () () () ());clear bc;go_wp2_with fail
  have cu:=bq.out.1.cell;exact bodyPost_ret (v:= .agg #[(),(),(),()]) (by simp[results,results20,go_sem,cu]) rfl (sE.ok aH.out bq.out.2)
 ·have QE:(gx !=0)=true:=by simpa using ay
  have aH:=hid (And.intro de.out ay);clear ay;have bc:=dr.out _ dc;obtain⟨aM,bx,f2⟩:=bc.q;have bq:=hid (mg bc (cN.out.trans dc) (by omega) gx e_ (.int .i64 (-1)) (.int .i64 (-1)));clear bc;go_wp2_with fail
  have cu:=bq.out.1.cell;exact bodyPost_ret (v:= .agg #[gx,e_,.int .i64 (-1),.int .i64 (-1)]) (by simp[results,results20,go_sem,cu]) rfl (sE.mk aH.out.1 aH.out.2 bq.out.2)
theorem Rs {α:Type} {f:α→ByteArray} {l:List α} (h:∀(j:Nat) t,l[j]?=some t→eS (f t) ((l.take j).map f)=false):∀(i j:Nat) (s t:α),l[i]?=some s→l[j]?=some t→f s=f t→i=j:=by
 have key:∀(i j:Nat) (s t:α),i<j→l[i]?=some s→l[j]?=some t→f s=f t→False:=fun i j s t Xt ax bS e=>by
  have I:=h j t bS;have U:eS (f t) ((l.take j).map f)=true:=E7.2 (List.mem_map.2 ⟨s,List.mem_of_getElem? (i:=i) (by rw[List.getElem?_take,if_pos Xt];exact ax),e⟩);rw[I]at U
  cases U
 intro i j s t ax bS e;rcases Nat.lt_trichotomy i j with I|I|I
 ·exact (key i j s t I ax bS e).elim
 ·exact I
 ·exact (key j i t s I bS ax e.symm).elim
theorem oi.dG {l:cZ} (h:oi l):∀(i j:Nat) (s t:bP),l.sc[i]?=some s→l.sc[j]?=some t→s.ag=t.ag→i=j:=
 Rs (f:=fun s:bP=>s.ag) (fun j t bS=>(h.all j t bS).yG)
theorem oh.dw {l:cZ} {i:Nat} {s:bP} (h:oh l i s):∀(i j:Nat) (p q:bf),s.rs[i]?=some p→s.rs[j]?=some q→p.ag=q.ag→i=j:=
 Rs (f:=fun r:bf=>r.ag) (fun j t bS=>(h.rs j t bS).yG)
theorem oh.dj {l:cZ} {i:Nat} {s:bP} (h:oh l i s):∀(i j:Nat) (f g:lE),s.ds[i]?=some f→s.ds[j]?=some g→f.ag=g.ag→i=j:=
 Rs (f:=fun r:lE=>r.ag) (fun j t bS=>by
  have:=(h.ds j t bS).2.2.1;rw[←E7]at this;simpa using this)
theorem oh.rd {l:cZ} {i:Nat} {s:bP} (h:oh l i s):∀r∈s.rs,0≤r.bK∧r.bK<s.ds.length:=fun r hm=>by
 obtain⟨j,aB⟩:=List.getElem?_of_mem hm;exact (h.rs j r aB).bK
theorem oi.ms {l:cZ} (h:oi l) {i:Nat} {s:bP} (ax:l.sc[i]?=some s):s.ms= -1∨(0≤s.ms∧s.ms<l.sc.length):=by
 have aE:=(b8 ax).1;rcases (h.all i s ax).ms with I|⟨I,U,-⟩
 ·exact .inl I
 ·exact .inr ⟨I,by omega⟩
theorem oh.sp {l:cZ} {i:Nat} {s:bP} (h:oh l i s):rr s:=by
 refine⟨⟨h.dw,fun j r aB=> ?_⟩,fun d aH=> ?_⟩
 ·rcases (h.rs j r aB).bD with I|⟨I,U,ae⟩
  ·exact .inl I
  ·have aD:r.bD.toNat<s.rs.length:=by have:=(b8 aB).1;omega
   exact .inr ⟨I,U,_,a8 aD,ae _ (a8 aD)⟩
 ·have av:=aH.ES (BG s.ds.length s.rs);have I:=h.ac d.toNat (by omega);rw[Int.toNat_of_nonneg av.1]at I;have U:=(LB (rs:=s.rs) av).2 aH;rw[←List.contains_iff_mem,I]at U
  cases U
theorem oh.nb {l:cZ} {i:Nat} {s:bP} (h:oh l i s):∀r∈s.rs,r.ag≠eP:=fun r hm e=>by
 obtain⟨j,aB⟩:=List.getElem?_of_mem hm;have I:=(h.rs j r aB).id;rw[e]at I;revert I;decide
theorem ajN {s:jl}:∀(xs:List cz) (st:List cO),(xt s xs st).2=0→∀x∈xs,∃ba,(mL s x.o x.n ba).2=0:=by
 intro xs;induction xs with
 |nil=>intro _ _ x af;cases af
 |cons y r bH=>
  intro st h x af;rw[xt]at h;split at h
  ·cases h
  ·split at h
   ·rename_i I;exact absurd h I
   ·rename_i I;rcases List.mem_cons.1 af with rfl|af
    ·exact⟨_,by simpa using I⟩
    ·exact bH _ h x af
theorem agX {s:jl} {o n:Int} {ba:List cO} (aL:36≤o∧o≤39) (h:(mL s o n ba).2=0):s.hm=true∧0≤n∧n<s.md.length:=by
 unfold mL at h;rw[if_neg (by omega),if_neg (by omega),if_neg (by omega),if_neg (by omega),if_neg (by omega),if_neg (by omega),if_pos (by omega)]at h;unfold CE at h
 cases hm:s.hm with
 |false=>rw[hm]at h;cases h
 |true=>
  rw[hm,if_neg (by decide),if_neg (by omega)]at h;by_cases U:(o8 s.ms n s.md).2≠0
  ·rw[if_pos U]at h;exact absurd h U
  ·have ae:(o8 s.ms n s.md).2=0:=by simpa using U
   unfold o8 at ae;by_cases aJ:n<0∨(s.md.length:Int)≤n
   ·rw[if_pos aJ]at ae
    cases ae
   ·exact⟨rfl,by omega,by omega⟩
theorem aba {l:cZ} {s:bP} {xs:List cz} {t:cO} (h:q1 (xq l s) xs=(t,0)):∀e∈kl xs,0≤s.ms∧0≤e∧e<(b0 l s).ds.length:=fun e he=>by
 unfold kl at he;obtain⟨x,af,rfl⟩:=List.mem_map.1 he;rw[List.mem_filter]at af;have aL:36≤x.o∧x.o≤39:=by simpa using af.2
 unfold q1 at h;split at h
 ·rename_i I;exact absurd (congrArg Prod.snd h) I
 ·obtain⟨ba,ys⟩:=ajN _ _ (congrArg Prod.snd h) x af.1;obtain⟨I,U,ae⟩:=agX aL ys;have aJ:0≤s.ms∧s.ms<l.sc.length:=by simpa[xq] using I
  refine⟨aJ.1,U,?_⟩;unfold xq at ae;dsimp only at ae;rw[if_pos aJ,List.length_map]at ae;exact ae
theorem oi.H8 {l:cZ} (h:oi l):xU l:=by
 refine⟨h.dG,fun s hm=> ?_⟩;obtain⟨i,aE⟩:=List.getElem?_of_mem hm;have H:=h.all i s aE;refine⟨H.sp,H.dj,H.rd,H.nb,h.ms aE,fun r aH e he=> ?_⟩;obtain⟨j,aB⟩:=List.getElem?_of_mem aH;have R:=H.rs j r aB;rcases he with he|he
 ·by_cases ai:0<r.g.length
  ·exact aba (R.GV ai) e he
  ·have:r.g=[]:=List.length_eq_zero_iff.1 (by omega);rw[this]at he
   cases he
 ·have hdf:=R.bK;have aD:r.bK.toNat<s.ds.length:=by omega
  exact aba (R.fA _ (a8 aD)) e he
end Go.Proofs.YtobpgndkciofhaaGreatDoor
