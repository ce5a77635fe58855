import Derived.Test.YtobpgndkciofhaaGreatDoorW
set_option linter.all false
namespace Go.Proofs.YtobpgndkciofhaaGreatDoor
open Go.RowKit Go.Proofs.Tryz
open Go.Lib (hid)
set_option maxRecDepth 100000
set_option maxHeartbeats 8000000
def aay (R:Int×Int×Int) (w:World) (e:Ending) (w':World):Prop:=∃a b c:Int,e= .returned (.tuple #[R.1,.agg #[R.2.1,a,b,c]])∧Kept w w'
theorem Of {wr:World} {N i m:Nat} {acc:List Bool} {b:Bool} (aq:acc.length=i) (aE:i<m) (h:ao wr N 4 ((iw (acc++List.replicate (m-i) false)).setIfInBounds i (.bool b))):ao wr N 4 (iw ((acc++[b])++List.replicate (m-(i+1)) false)):=by
 rw[x1,List.set_append_right _ _ (by omega),aq,Nat.sub_self,show m-i=(m-(i+1))+1 by omega,List.replicate_succ,List.set_cons_zero]at h;rw[List.append_assoc];exact h
theorem acV {w:World} {g:Nat} {l:List Bool} (h:ao w g 4 (iw l)):AV w (.slice (some ⟨g,0,none⟩) l.length l.length) l:=by
 refine⟨_,_,rfl,fun _=>⟨g,0,rfl,h.lt,fun j x aB i u aE=> ?_⟩⟩;match i,aE with
 |0,aE=>
  cases aE;rw[h.cell,Nat.zero_add,Nat.mul_one,Nat.add_zero,qu aB]
theorem acD {Lf:gm} {E:dC} {rs:List bf} {i:Nat} {l:List Nat} {acc:List Bool} {r:bf} (aH:rs[i]?=some r) (h:r.g.length=0):fG Lf E rs (i::l) acc=fG Lf E rs l (acc++[true]):=by
 rw[fG,aH,Option.getD_some,if_pos h]
theorem acC {Lf:gm} {E:dC} {rs:List bf} {i:Nat} {l:List Nat} {acc:List Bool} {r:bf} (aH:rs[i]?=some r) (h:r.g.length≠0) (U:(iy Lf E r.g).2=0):fG Lf E rs (i::l) acc=fG Lf E rs l (acc++[decide ((iy Lf E r.g).1.n=1)]):=by
 rw[fG,aH,Option.getD_some,if_neg h,if_neg (by omega)]
theorem acB {Lf:gm} {E:dC} {rs:List bf} {i:Nat} {l:List Nat} {acc:List Bool} {r:bf} (aH:rs[i]?=some r) (h:r.g.length≠0) (U:(iy Lf E r.g).2≠0):fG Lf E rs (i::l) acc=([],(iy Lf E r.g).2,(i:Int)):=by
 rw[fG,aH,Option.getD_some,if_neg h,if_pos U]
theorem aiR (b2 c_:Value) (x:bP) (E:dC) (cI d:Int) (w:World) (bj:iH w b2 x) (aX:hl w c_ E) (br:Mon w) (aw:pB x.rs):
  Calls prog 56 #[b2,c_,cI,d] w (aay (eL ca E x.rs d) w):=by
 obtain⟨i0,aE,fy,cb,eu⟩:=info_parts Tryz.Ls;obtain⟨n0,ig⟩:=aw;have sr:=hid (fun w1 (aa:Kept w w1)=>ajP b2 x d E.dt w1 (bj.kept aa) n0);have kP:=hid (fun (ny:Value) (e:List cz) (w1:World) (aa:Kept w w1) (aA:kt w ny e)=>Vz ny c_ e E w1 (aA.kept aa) (aX.kept aa) (br.kept aa));obtain⟨bo,b6,bA,rfl,bC,b',nn⟩:=bj;obtain⟨gN,gS,rfl,-⟩:=bC;obtain⟨fo,fS,rfl,-⟩:=b';obtain⟨eC,rc,rfl,-,-,oA⟩:=nn;obtain⟨cl,aC,cM,aM,cX,a1,ef,bN,dk,bJ,rfl,-⟩:=aX.parts;have lb:=hid oA;have fF:=xn (bV d E.dt) x.rs;have w3:h2 (bV d E.dt) x.rs x.rs.length≤1000:=by
  unfold h2;refine Nat.le_trans (List.length_filter_le _ _) ?_;rw[List.length_take];omega
 have tw:=hid (fun k i h=>(fF.uu k i h).1);have Ea:(c8 (bV d E.dt) x.rs).1.length=(c8 (bV d E.dt) x.rs).2.length:=fF.oB.trans fF.pl.symm;have Ec:(c8 (bV d E.dt) x.rs).2.length≤1000:=by rw[fF.pl];exact w3
 obtain⟨T,bl⟩:∃T,eL ca E x.rs d=T:=⟨_,rfl⟩;rw[bl];unfold eL at bl;generalize (c8 (bV d E.dt) x.rs).1=L at*;generalize (c8 (bV d E.dt) x.rs).2=P at*;generalize x.ag=ag at*;generalize x.ms=ms at*;generalize x.ins.length=s3 at*;generalize x.ds.length=c7 at*;generalize x.rs=rs at*;have Wx:(h6 rs L).length=L.length:=by unfold h6;rw[List.length_map]
 generalize h6 rs L=Q at*;obtain⟨jy,Pm⟩:∃jy,fG ca E rs L []=jy:=⟨_,rfl⟩;rw[Pm]at bl;have ch:=hid bl;have mV:=hid (show fG ca E rs (L.drop 0) []=jy from Pm);obtain⟨n,lo⟩:∃n,rs.length=n:=⟨_,rfl⟩;rw[lo]at n0 lb tw sr⊢;have bk:=hid lo;have oz:(n:Int)≤1000:=by omega
 have zf:=hid (And.intro Ea (And.intro Ec Wx));have iu:=hid ig;clear oA lo bl Pm fF w3 Ea Ec Wx aX ig;go_enter func56,ntmps56
 go_upto_region 1 with fail
 generalize ar:((w.alloc _).alloc _).alloc _=W at*;obtain⟨aF,a_,aS,aT⟩:=Kept.b7 ar;clear ar;obtain⟨dL,cA⟩:=a_.p;obtain⟨dq,a7⟩:=aS.p;have F2:=hid (sr.out W aF);go_upto_region 2 with (go_at_call 75;refine F2.out.mono ?_;rintro e ct ⟨bT,eK,j',rfl,aO,aN,cK,dA⟩;obtain⟨anp,lc,rfl,HD⟩:=fC.at_ aO;have bz:=hid (And.intro aN (And.intro cK (And.intro dA HD)));clear aO aN cK dA HD)
 rw[mj];have Bb:=hid bz.out.2.2.2;rw[mj]at Bb;have ak:=bz.out.2.2.1;have wi:=hid (a_.kept ak);have dD:=hid (aS.kept ak);have qj:=hid (aT.kept ak);have iP:=hid (aF.trans ak);have sq:=hid (And.intro bz.out.1 bz.out.2.1);obtain⟨m,lP⟩:∃m,L.length=m:=⟨_,rfl⟩;rw[lP]at Bb zf⊢;have qg:=hid lP;have kD:m≤1000:=by have:=zf.out.2.1;have:=zf.out.1;omega
 clear sr F2 bz dL cA dq a7 a_ aS aT ak lP aF;go_upto_region 3 with (at_make;refine wpList_make_full _ rfl _ _ 128 rfl ct.heap.size 4 i0 (.bool false) 1 underlying128 aE fy cb _ _ _ _ m rfl rfl rfl rfl (by rw[eu];omega) (by unfold maxLen;omega) (Nat.le_refl _) ?_;intro w2 cR cd;have TF:=hid (Ia cR cd);clear cR cd)
 go_upto_region 4 with fail
 go_loopw [33] (fun y wr=>∃(i:Nat) (acc:List Bool),y= .int .i64 i∧i≤m∧Kept ct wr∧acc.length=i∧ao wr ct.heap.size 4 (iw (acc++List.replicate (m-i) false))∧fG ca E rs (L.drop i) acc=jy) (fun y _=>m-(intOf y).toNat)
 case atStart=>exact⟨0,[],rfl,Nat.zero_le _,TF.out.2,rfl,by rw[List.nil_append,Nat.sub_zero];exact TF.out.1,mV.out⟩
 case round=>
  obtain⟨i,acc,rfl,him,ab,vv,zY,aG⟩:=hrel;by_cases aD:i<m
  ·obtain⟨Aq,ei,rfl,sS,Ab⟩:=Bb.out (by omega);have z':i<L.length:=by have:=qg.out;omega
   have ai:L[i]?=some L[i]:=a8 z';have j8:=tw.out i _ ai;have H7:=Ab i _ (LH ai);rw[List.drop_eq_getElem_cons z']at aG;generalize L[i]=k at*;obtain⟨fz,ro,rfl,dm,iW⟩:=lb.out (by omega);have ie:k<rs.length:=by have:=bk.out;omega
   have gr:rs[k]?=some rs[k]:=a8 ie;obtain⟨-,-,-,-,-,-,⟨nU,eQ,h4⟩,-,-⟩:=iW _ _ gr;have z8:=(iu.out _ (List.mem_of_getElem? gr)).1;generalize rs[k]=r at*;have q':=hid (fun w1 aa=>kP.out nU r.g w1 aa h4);obtain⟨jg,gc,rfl,-⟩:=h4.1.at_;unfold ed at eQ;have T6:=ab.ad sS H7;have Y8:=bd sS ab.size;have al:=iP.out.trans ab;have y6:=al.ad dm eQ;have RL:=bd dm al.size;have eP:=wi.out.kept ab;have UA:=eP.cell 4;have b0l:=eP.lt;have UB:=dD.out.kept ab;obtain⟨bY,DN⟩:=UB.p;simp only[List.getElem?_toArray,List.getElem?_cons_zero,List.getElem?_cons_succ]at UA;have c6:(i:Int)<m:=by omega
   have jI:(k:Int)<n:=by omega
   have iD:=hid zY;have du:=hid ab;have dd:=hid aG;have bq:=hid (fun h:r.g.length=0=>(acD (Lf:=ca) (E:=E) (l:=L.drop (i+1)) (acc:=acc) gr h).symm.trans aG);have Bg:=hid (fun (h:r.g.length≠0) U=>(acC (Lf:=ca) (E:=E) (l:=L.drop (i+1)) (acc:=acc) gr h U).symm.trans aG);have tv:=hid (fun (h:r.g.length≠0) U=>(acB (Lf:=ca) (E:=E) (l:=L.drop (i+1)) (acc:=acc) gr h U).symm.trans aG);have ZG:=zY.cell i;rw[qu (b:=false) (by rw[List.getElem?_append_right (by omega),vv,Nat.sub_self,List.getElem?_replicate,if_pos (by omega)])]at ZG;have nl0:=zY.lt;have nf0:=zY.frozen i;clear zY aG eQ h4 iW gr H7 Ab ai al;by_cases vx:r.g.length=0
   ·have oO:=hid (bq.out vx);have alC:(r.g.length:Int)=0:=by omega
    generalize r.g.length=ox at*;subst vx;go_wp2_with fail
    have eM:=hid (iD.out.aP i (.bool true));have fi:=du.out.setCell (p:=⟨ct.heap.size,i,none⟩) (Nat.le_refl _) (.bool true);have hL:=hid fi;clear fi;go_roundw
    case rel=>exact⟨i+1,acc++[true],by go_num,aD,hL.out,by rw[List.length_append,vv];rfl,Of vv aD eM.out,oO.out⟩
    case measure=>simp[intOf];omega
   ·obtain⟨j5,ow,bm,gZ,w4⟩:∃j5 ow bm gZ,iy ca E r.g=(⟨j5,ow,bm⟩,gZ):=⟨_,_,_,_,rfl⟩;have q7:=hid (fun U:gZ=0=>by have:=Bg.out vx (by rw[w4];exact U);rwa [w4]at this);have SV:=hid (show gZ≠0→∀Fu,Kept w Fu→aay T w (.returned (.tuple #[(),.agg #[.int .i64 gZ,cI,d,k]])) Fu from fun U Fu aa=>by
     have ae:=tv.out vx (by rw[w4];exact U);rw[w4]at ae;have aJ:=ch.out;rw[←ae]at aJ;simp only[ne_eq,U,not_false_eq_true,if_true]at aJ;exact⟨cI,d,k,by rw[←aJ],aa⟩)
    have sj:=hid (show∀w1,Kept w w1→Calls prog 57 #[.slice jg r.g.length gc,.agg #[E.dt,.slice cl E.ins.length aC,.slice cM E.ds.length aM,.slice cX E.ms.length a1,.slice ef E.mt.length bN,.slice dk E.tb.length bJ]] w1 (fun e w'=>e= .returned (.tuple #[.agg #[.int .i64 j5,.int .i64 ow,.int .i64 bm],.int .i64 gZ])∧Kept w1 w')from fun w1 aa=>by
     have h:=q'.out w1 aa;rw[w4]at h;exact h)
    have B7:¬(r.g.length:Int)=0:=by omega
    generalize r.g.length=ox at*;clear Bg tv bq q' w4 vx kP ZG nf0;go_upto_region 8 with fail
    have ej:=hid (show∀X,Kept wr X→Kept wr X∧X.cell? ⟨w.heap.size,4,none⟩=some (.slice (some ⟨fz,ro,none⟩) n rc)∧X.cell? ⟨w.heap.size+1,0,none⟩=some (.int .i64 E.dt)∧X.cell? ⟨w.heap.size+1,1,none⟩=some (.slice cl E.ins.length aC)∧X.cell? ⟨w.heap.size+1,2,none⟩=some (.slice cM E.ds.length aM)∧X.cell? ⟨w.heap.size+1,3,none⟩=some (.slice cX E.ms.length a1)∧X.cell? ⟨w.heap.size+1,4,none⟩=some (.slice ef E.mt.length bN)∧X.cell? ⟨w.heap.size+1,5,none⟩=some (.slice dk E.tb.length bJ)∧X.cell? ⟨fz,ro+k*9+6,none⟩=some (.slice jg ox gc)from fun X h=>⟨h,h.ad b0l UA,h.ad DN (bY 0),h.ad DN (bY 1),h.ad DN (bY 2),h.ad DN (bY 3),h.ad DN (bY 4),h.ad DN (bY 5),h.ad RL y6⟩);clear T6 Y8 y6 eP UB;go_region_held3 (fun X=>Kept wr X∧X.cell? ⟨w.heap.size,4,none⟩=some (.slice (some ⟨fz,ro,none⟩) n rc)∧X.cell? ⟨w.heap.size+1,0,none⟩=some (.int .i64 E.dt)∧X.cell? ⟨w.heap.size+1,1,none⟩=some (.slice cl E.ins.length aC)∧X.cell? ⟨w.heap.size+1,2,none⟩=some (.slice cM E.ds.length aM)∧X.cell? ⟨w.heap.size+1,3,none⟩=some (.slice cX E.ms.length a1)∧X.cell? ⟨w.heap.size+1,4,none⟩=some (.slice ef E.mt.length bN)∧X.cell? ⟨w.heap.size+1,5,none⟩=some (.slice dk E.tb.length bJ)∧X.cell? ⟨fz,ro+k*9+6,none⟩=some (.slice jg ox gc))
     ((refine ej.out _ ?_;(with_reducible repeat (first|exact .refl _|assumption|refine .drew ?_|refine .alloc ?_ _|refine .setCell ?_ (by simp only;omega) _|refine .trans ?_ ‹Kept _ _›))))
     ((go_at_call 57;refine (sj.out _ ((iP.out.trans du.out).trans ?_)).mono ?_;(·(with_reducible repeat (first|exact .refl _|assumption|refine .drew ?_|refine .alloc ?_ _|refine .setCell ?_ (by simp only;omega) _|refine .trans ?_ ‹Kept _ _›)));rintro e w' ⟨rfl,gC⟩;(try (have bM:=ao.kept (ao.drew (ao.new wr 44 #[(),(),()])) gC;have j9:=bM.cell;have ke:=bM.frozen;have rN:=bM.lt));have mb:=Below.size gC;(try simp at mb)))
    ·have bU:=ao.new w' 44 #[.int .i64 j5,.int .i64 ow,.int .i64 bm];have eV:Kept wr (w'.alloc (.cells #[.int .i64 j5,.int .i64 ow,.int .i64 bm] 44)):=Kept.alloc (Kept.trans (Kept.drew (aQ _)) gC) _;clear gC mb;rename_i hHeld;clear hHeld;generalize w'.alloc (.cells #[.int .i64 j5,.int .i64 ow,.int .i64 bm] 44)=e8 at eV bU⊢;generalize w'.heap.size=g3 at bU⊢;have pt:=hid (du.out.trans eV);obtain⟨DO,DP⟩:=bU.p;have uX:=iD.out.kept eV;have Ik:=uX.cell i;rw[qu (b:=false) (by rw[List.getElem?_append_right (by omega),vv,Nat.sub_self,List.getElem?_replicate,if_pos (by omega)])]at Ik;have nl6:=uX.lt;have Ro:=uX.frozen i;have Db:=hid uX;have zx:=qj.out.kept pt.out;obtain⟨RN,rl6,RO⟩:=zx.q;have zi:=hid zx;have afD:=pt.out.size;clear eV bU uX zx;by_cases nq:gZ=0
     ·have oO:=hid (q7.out nq);subst nq;clear RN RO;go_wp2_with fail
      have eM:=hid (Db.out.aP i (.bool (bm==1)));have fi:=pt.out.setCell (p:=⟨ct.heap.size,i,none⟩) (Nat.le_refl _) (.bool (bm==1));have hL:=hid fi;clear fi;go_roundw
      case rel=>exact⟨i+1,acc++[decide (bm=1)],by go_num,aD,hL.out,by rw[List.length_append,vv];rfl,Of vv aD eM.out,oO.out⟩
      case measure=>simp[intOf];omega
     ·have oO:=hid (SV.out nq);have hh:(gZ !=0)=true:=by simpa using nq
      clear nq Ik Ro;go_wp2_with fail
      have Z:=((((zi.out.aP 0 (.int .i64 gZ)).aP 1 cI).aP 2 d).aP 3 k).cell;have D':=((((iP.out.trans pt.out).setCell (p:=⟨w.heap.size+1+1,0,none⟩) (by simp only;omega) (.int .i64 gZ)).setCell (p:=⟨w.heap.size+1+1,1,none⟩) (by simp only;omega) cI).setCell (p:=⟨w.heap.size+1+1,2,none⟩) (by simp only;omega) d).setCell (p:=⟨w.heap.size+1+1,3,none⟩) (by simp only;omega) k;exact bodyPost_ret (v:= .tuple #[(),.agg #[.int .i64 gZ,cI,d,k]]) (by simp[results,results56,go_sem,Z]) rfl (oO.out _ D')
    ·have bU:=((bM.aP 0 (.int .i64 j5)).aP 1 (.int .i64 ow)).aP 2 (.int .i64 bm);have eV:Kept wr (((w'.setCell ⟨wr.heap.size,0,none⟩ (.int .i64 j5)).setCell ⟨wr.heap.size,1,none⟩ (.int .i64 ow)).setCell ⟨wr.heap.size,2,none⟩ (.int .i64 bm)):=by
      have iI:Kept wr w':=Kept.trans (Kept.drew (Kept.alloc (aQ _) _)) gC;refine Kept.setCell (Kept.setCell (Kept.setCell iI ?_ _) ?_ _) ?_ _<;>exact Nat.le_refl _
     replace bU:ao _ wr.heap.size 44 #[.int .i64 j5,.int .i64 ow,.int .i64 bm]:=bU;clear gC mb bM j9 ke rN;rename_i hHeld;clear hHeld;generalize ((w'.setCell ⟨wr.heap.size,0,none⟩ (.int .i64 j5)).setCell ⟨wr.heap.size,1,none⟩ (.int .i64 ow)).setCell ⟨wr.heap.size,2,none⟩ (.int .i64 bm)=e8 at eV bU⊢;generalize wr.heap.size=g3 at bU⊢;have pt:=hid (du.out.trans eV);obtain⟨DO,DP⟩:=bU.p;have uX:=iD.out.kept eV;have Ik:=uX.cell i;rw[qu (b:=false) (by rw[List.getElem?_append_right (by omega),vv,Nat.sub_self,List.getElem?_replicate,if_pos (by omega)])]at Ik;have nl6:=uX.lt;have Ro:=uX.frozen i;have Db:=hid uX;have zx:=qj.out.kept pt.out;obtain⟨RN,rl6,RO⟩:=zx.q;have zi:=hid zx;have afD:=pt.out.size;clear eV bU uX zx;by_cases nq:gZ=0
     ·have oO:=hid (q7.out nq);subst nq;clear RN RO;go_wp2_with fail
      have eM:=hid (Db.out.aP i (.bool (bm==1)));have fi:=pt.out.setCell (p:=⟨ct.heap.size,i,none⟩) (Nat.le_refl _) (.bool (bm==1));have hL:=hid fi;clear fi;go_roundw
      case rel=>exact⟨i+1,acc++[decide (bm=1)],by go_num,aD,hL.out,by rw[List.length_append,vv];rfl,Of vv aD eM.out,oO.out⟩
      case measure=>simp[intOf];omega
     ·have oO:=hid (SV.out nq);have hh:(gZ !=0)=true:=by simpa using nq
      clear nq Ik Ro;go_wp2_with fail
      have Z:=((((zi.out.aP 0 (.int .i64 gZ)).aP 1 cI).aP 2 d).aP 3 k).cell;have D':=((((iP.out.trans pt.out).setCell (p:=⟨w.heap.size+1+1,0,none⟩) (by simp only;omega) (.int .i64 gZ)).setCell (p:=⟨w.heap.size+1+1,1,none⟩) (by simp only;omega) cI).setCell (p:=⟨w.heap.size+1+1,2,none⟩) (by simp only;omega) d).setCell (p:=⟨w.heap.size+1+1,3,none⟩) (by simp only;omega) k;exact bodyPost_ret (v:= .tuple #[(),.agg #[.int .i64 gZ,cI,d,k]]) (by simp[results,results56,go_sem,Z]) rfl (oO.out _ D')
  ·obtain rfl:i=m:=by omega
   have c6:¬((i:Int)<i):=by omega
   rw[List.drop_eq_nil_of_le (by have:=qg.out;omega),fG]at aG;rw[Nat.sub_self,List.replicate_zero,List.append_nil]at zY;have B0:=acV zY;rw[vv]at B0;have tA:=hid (aiS eK j' _ P Q acc wr (sq.out.1.kept ab) (sq.out.2.kept ab) B0 zf.out.2.1 (by have:=zf.out;omega));have kB:=ch.out;rw[←aG]at kB;simp only[ne_eq,not_true_eq_false,if_false]at kB;have iR:=hid (Md (par:=P) (pri:=Q) (apl:=acc));generalize kK P Q acc=at_ at*;have ze:=hid (iP.out.trans ab);have HRF:=hid (qj.out.kept ab);have FP:=hid ab;have jA:=hid kB;clear ab zY B0 aG kB vv;go_upto_region 14 with (go_at_call 76;refine tA.out.mono ?_;rintro e cf ⟨rfl,aO⟩;have kO:=hid aO;clear aO)
   have N0:=HRF.out.kept kO.out;obtain⟨r5c,r5l,r5f⟩:=N0.q;have amd:=Nat.le_trans ze.out.size kO.out.size;have Lj:w.heap.size+1+1<cf.heap.size:=r5l;have D':Kept w ((((cf.setCell ⟨w.heap.size+1+1,0,none⟩ ()).setCell ⟨w.heap.size+1+1,1,none⟩ ()).setCell ⟨w.heap.size+1+1,2,none⟩ ()).setCell ⟨w.heap.size+1+1,3,none⟩ ()):=
    ((((ze.out.trans kO.out).setCell (p:=⟨w.heap.size+1+1,0,none⟩) (by simp only;omega) _).setCell (p:=⟨w.heap.size+1+1,1,none⟩) (by simp only;omega) _).setCell (p:=⟨w.heap.size+1+1,2,none⟩) (by simp only;omega) _).setCell (p:=⟨w.heap.size+1+1,3,none⟩) (by simp only;omega) _
   have Tu:=hid D';have wx:=hid N0;clear D' N0;by_cases eG:at_<0
   ·have NM:=hid (show (at_,(0:Int),(0:Int))=T by have:=jA.out;rwa [if_pos eG]at this);go_wp2_with fail
    have Z:=((((wx.out.aP 0 ()).aP 1 ()).aP 2 ()).aP 3 ()).cell;exact bodyPost_ret (v:= .tuple #[at_,.agg #[(),(),(),()]]) (by simp[results,results56,go_sem,Z]) rfl ⟨0,0,0,by rw[←NM.out],Tu.out⟩
   ·have aeO:0≤at_:=by omega
    obtain⟨an,rfl⟩:∃an:Nat,at_=an:=⟨at_.toNat,by omega⟩;have l_:=iR.out aeO;have aln:(an:Int)<i:=by have:=zf.out.1;omega
    have WR:an<L.length:=by have:=qg.out;omega
    obtain⟨Aq,ei,rfl,sS,Ab⟩:=Bb.out (by omega);have H7:=Ab an _ (LH (a8 WR));have NM:=hid (show (((L[an]:Nat):Int),(0:Int),(0:Int))=T by
     have:=jA.out;rw[if_neg eG,Int.toNat_natCast,a8 WR,Option.getD_some]at this;exact this)
    generalize L[an]=k at*;have T6:=(FP.out.trans kO.out).ad sS H7;have Y8:=bd sS (FP.out.trans kO.out).size;clear Ab H7;go_wp2_with fail
    have Z:=((((wx.out.aP 0 ()).aP 1 ()).aP 2 ()).aP 3 ()).cell;exact bodyPost_ret (v:= .tuple #[k,.agg #[(),(),(),()]]) (by simp[results,results56,go_sem,Z]) rfl ⟨0,0,0,by rw[←NM.out],Tu.out⟩
end Go.Proofs.YtobpgndkciofhaaGreatDoor
