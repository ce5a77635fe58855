import Derived.Test.YtobpgndkciofhaaGreatDoorAF
import Derived.Test.YtobpgndkciofhaaGreatDoorY
set_option linter.all false
namespace Go.Proofs.YtobpgndkciofhaaGreatDoor
open Go.RowKit Go.Proofs.Tryz
open Go.Lib (hid)
set_option maxRecDepth 100000
set_option maxHeartbeats 32000000
theorem oi.small {l:cZ} (h:oi l) {s:bP} (ax:s∈l.sc):pB s.rs∧s.ds.length≤12:=by
 obtain⟨i,aE⟩:=List.getElem?_of_mem ax;have H:=h.all i s aE;exact⟨aar H.rs H.d12,H.d12⟩
theorem oi.aaH {l:cZ} (h:oi l) {s:bP} (ax:s∈l.sc):pB (b0 l s).rs∧(b0 l s).ds.length≤12:=by
 by_cases aj:0≤s.ms
 ·exact h.small ((h.H8.b0 ax).2.1 aj)
 ·have e:b0 l s=iq:=by unfold b0;rw[if_neg aj]
  rw[e];exact⟨⟨by simp[iq],fun r aH=>by simp[iq]at aH⟩,by simp[iq]⟩
theorem akj {ms:List (List ByteArray)} {c1:List sz} {sc d:Int} {ins:List bg} {mem:List (List bg)} (h:(s' ms c1 sc d ins mem).2.2=0):mem.length≤1000:=by
 unfold s' at h;split at h
 ·cases h
 ·split at h
  ·cases h
  ·dsimp only at h;split at h
   ·split at h
    ·cases h
    ·rename_i U;unfold r3 at U;split at U<;>simp only at U<;>omega
   ·rename_i U;exact absurd h U
noncomputable def h3 (l:cZ) (sc:Int) (c:h9) (d:Int):bg×Int:=if qs l sc c d=0 then nT ca l (l.sc[sc.toNat]?.getD iq) c d else (v0,qs l sc c d)
theorem aep {l:cZ} {s:bP} {c:h9} {d:Int} {R:List bg×Int} (aw:x' l (b0 l s) s c (k8 s.ds.length s.rs d) (lT s (b0 l s) d)=R) (h:R.2≠0):nT ca l s c d=(v0,R.2):=by
 unfold x' at aw;unfold nT;by_cases hm:(kI ca l.tb c.d (b0 l s) (lT s (b0 l s) d) c.mem []).2≠0
 ·rw[if_pos hm]at aw;rw[if_pos hm,←aw]
 ·rw[if_neg hm]at aw;rw[if_neg hm,aw,if_pos h]
theorem aeq {l:cZ} {s:bP} {c:h9} {d:Int} {R:List bg×Int} (aw:x' l (b0 l s) s c (k8 s.ds.length s.rs d) (lT s (b0 l s) d)=R) (h:R.2=0):nT ca l s c d=(R.1[d.toNat]?.getD v0,0)∧R.1.length=s.ds.length:=by
 unfold x' at aw;unfold nT;by_cases hm:(kI ca l.tb c.d (b0 l s) (lT s (b0 l s) d) c.mem []).2≠0
 ·rw[if_pos hm]at aw;rw[←aw]at h;exact absurd h hm
 ·rw[if_neg hm]at aw;rw[if_neg hm,aw,if_neg (fun k=>k h)];refine⟨rfl,?_⟩;rw[←aw];unfold nC;rw[Mg,List.length_replicate]
theorem acG {l:cZ} {sc d:Int} {c:h9} (h:qs l sc c d=0):oR l∧rl l sc d∧(s' l.ms l.c1 sc c.d c.ins c.mem).2.2=0:=by
 by_cases I:oR l
 ·by_cases U:rl l sc d
  ·exact⟨I,U,by rw[←Gv I U];exact h⟩
  ·rw[Uy I U]at h
   cases h
 ·rw[Ux I]at h
  cases h
def zQ (R:bg×Int) (w:World) (e:Ending) (w':World):Prop:=∃r a b f:Int,e= .returned (.tuple #[.agg #[R.1.k,R.1.e,R.1.n],r,.agg #[R.2,a,b,f]])∧(R.2=0→a=0∧b=0∧f=0)∧Kept w w'
theorem zQ.mk {R:bg×Int} {w w':World} {x y z c r a b f:Int} (h:R=(⟨x,y,z⟩,c)) (aj:c=0→a=0∧b=0∧f=0) (aa:Kept w w'):zQ R w (.returned (.tuple #[.agg #[x,y,z],r,.agg #[c,a,b,f]])) w':=by
 subst h;exact⟨r,a,b,f,rfl,aj,aa⟩
theorem O4 (bT pZ r4:Value) (l:cZ) (sc d:Int) (c:h9) (w:World) (bL:gy w bT l) (bC:ff w pZ c.ins) (br:ld w r4 c.mem) (fP:c.ins.length≤9223372036854775807) (nm:Mon w):
  Calls prog 9 #[bT,sc,.agg #[c.d,pZ,r4],d] w (zQ (h3 l sc c d) w):=by
 have dW:=hid (fun w1 (h:Kept w w1)=>adn bT pZ r4 l sc d c w1 (bL.kept h) (bC.kept h) (br.kept h) fP);have e7:=hid bL;have dn:=hid bC;have cp:=hid br;have abQ:=hid nm;obtain⟨c_,b4,b2,rfl,aj,I,U⟩:=bL;obtain⟨cY,fw,rfl,-⟩:=id aj;obtain⟨cU,cW,rfl,-⟩:=id I;obtain⟨jU,hP,rfl,-⟩:=id U;obtain⟨dS,gP,rfl,-⟩:=id bC;obtain⟨eH,kY,rfl,-⟩:=id br;unfold sE at dW;obtain⟨rp,Ha⟩:∃R,qs l sc c d=R:=⟨_,rfl⟩;rw[Ha]at dW;have wu:=hid Ha;obtain⟨N2,iU⟩:∃R,h3 l sc c d=R:=⟨_,rfl⟩;rw[iU];have nJ:=hid iU;obtain⟨dt,ins,mem⟩:=c;dsimp only at*;generalize lR:l.sc.length=aaa at*;have n':=hid lR;generalize l.bm.length=dN at*;generalize l.tb.length=dh at*;generalize ins.length=b1 at*;generalize mem.length=ew at*;clear aj I U bC br fP nm Ha iU lR;go_enter func9,ntmps9
 go_upto_region 1 with fail
 generalize ar:(((w.alloc _).alloc _).alloc _).alloc _=W at*;obtain⟨aF,ec,e0,h1,gK⟩:=Kept.fh ar;clear ar;have cg:=hid (fun w1 (h:Kept W w1)=>And.intro (ec.kept h) (And.intro (e0.kept h) (And.intro (h1.kept h) (gK.kept h))));have cN:=hid aF;obtain⟨bN,h5⟩:=ec.p;obtain⟨eQ,ev⟩:=e0.p;have al8:w.heap.size+3<W.heap.size:=gK.lt;clear ec e0 h1 gK aF;go_upto_region 2 with (go_at_call 20;refine (dW.out _ cN.out).mono ?_;rintro az w1 ⟨a,b,f,rfl,-,ak⟩)
 generalize ar:w1.alloc _=V at*;obtain⟨fq,bU⟩:=Kept.az ar;clear ar;have ek:=ak.trans fq;have n1:=ak.size;clear fq;generalize w1.heap.size=g1 at*;obtain⟨a1,dz⟩:=bU.p;have fv:=(cg.out V ek).2.2.1;have gz:=(cg.out V ek).2.2.2;have er:=hid ek;clear bN h5 eQ ev bU dW;by_cases ah:rp=0
 case neg=>
  have hh:(rp !=0)=true:=by simpa using ah
  have cv:=hid (show N2=(⟨0,0,0⟩,rp)from by
   rw[←nJ.out];unfold h3;rw[wu.out,if_neg ah];rfl)
  have bI:=hid ah;clear ah;obtain⟨ST,gp⟩:∃S:List ia,S=[(2,w.heap.size+1+1,44,#[.int .i64 0,.int .i64 0,.int .i64 0]),(4,w.heap.size+1+1+1,46,#[.int .i64 rp,.int .i64 a,.int .i64 b,.int .i64 f])]:=⟨_,rfl⟩;have ep:=hid (show na [(2,w.heap.size+1+1,44,#[(),(),()]),(4,w.heap.size+1+1+1,46,#[rp,a,b,f])]from by unfold na;simp);have fM:=hid (show∀s∈([(2,w.heap.size+1+1,44,#[(),(),()]),(4,w.heap.size+1+1+1,46,#[rp,a,b,f])]:List ia),∃cs,ao V s.2.1 s.2.2.1 cs∧cs.size=s.2.2.2.size from by
   intro s ax;simp only[List.mem_cons,List.not_mem_nil,or_false]at ax;rcases ax with rfl|rfl
   ·exact⟨_,fv,rfl⟩
   ·exact⟨_,gz,rfl⟩)
  have iF:=hid (show∀s∈([(2,w.heap.size+1+1,44,#[(),(),()]),(4,w.heap.size+1+1+1,46,#[rp,a,b,f])]:List ia),w.heap.size≤s.2.1∧w.heap.size+2≤s.2.1∧s.2.1≤w.heap.size+3 from by
   intro s ax;simp only[List.mem_cons,List.not_mem_nil,or_false]at ax;rcases ax with rfl|rfl<;>simp only<;>omega)
  have ga:=hid (fun (g o:Nat) (v:Value) (ai:g<w.heap.size+2∨w.heap.size+3<g) (aq:g<V.heap.size) (ah:V.cell? ⟨g,o,none⟩=some v)=>dc.cell (W0:=V) (n:=5) (S:=[(2,w.heap.size+1+1,44,#[(),(),()]),(4,w.heap.size+1+1+1,46,#[rp,a,b,f])]) (b:=g) (o:=o) (v:=v) (fun s ax=>by have:=(iF.out s ax).2;omega) aq ah);rw[←gp]at ep fM iF ga;have NE:Nonempty (dc V 5 ST):=dc.ne fM.out;go_upto_region 3 with fail
  have bZ:=ga.out g1 0 _ (by omega) dz (a1 0);have b3:=ga.out g1 1 _ (by omega) dz (a1 1);have cT:=ga.out g1 2 _ (by omega) dz (a1 2);have ha:=ga.out g1 3 _ (by omega) dz (a1 3);refine v_ (C:=gl V 5 ST) (by kernel_rfl) (by kernel_rfl) (by kernel_rfl) (fun _ _ h=>h.sZ) (gl.start fM.out) ?_;refine lu [_,_] [_,_,_] _ _ rfl (by subst gp;simp) ?_
  repeat (go_big_quiet_step (exact rfl))
  refine wpQuiet_nil ?_;refine nx (g:=w.heap.size+1+1) (T:=44) (cs:=[.int .i64 0,.int .i64 0,.int .i64 0]) (by subst gp;simp) (by subst gp;exact ep.out.apart _ (by simp)) rfl rfl rfl rfl rfl (by kernel_rfl) rfl ?_;refine lu [_] [_] _ _ rfl (by subst gp;simp) ?_
  repeat (go_big_quiet_step (exact rfl))
  refine wpQuiet_nil ?_;refine nx (g:=w.heap.size+1+1+1) (T:=46) (cs:=[.int .i64 rp,a,b,f]) (by subst gp;simp) (by subst gp;exact ep.out.apart _ (by simp)) rfl rfl rfl rfl rfl (by kernel_rfl) rfl ?_;refine vN ?_;intro wC hZ jq fi;subst gp;have mT:=fi.new jq (s:=(2,_,_,_)) (by simp;exact⟨rfl,rfl,rfl⟩) (by simp only;omega);have te:=fi.new jq (s:=(4,_,_,_)) (by simp;exact⟨rfl,rfl,rfl⟩) (by simp only;omega);have hL:=hid (fi.kept (cN.out.trans er.out) (fun s ax=>(iF.out s ax).1));go_wp2_with fail
  have wb:=mT.cell;have uI:=te.cell;exact bodyPost_ret (v:= .tuple #[.agg #[(),(),()],(),.agg #[rp,a,b,f]]) (by simp[results,results9,go_sem,wb,uI]) rfl (zQ.mk cv.out (fun h=>absurd h bI.out) hL.out)
 subst ah;obtain⟨fF,⟨⟨o3,afw⟩,ll,gB⟩,ug⟩:=acG wu.out;have gR:=akj ug;obtain⟨k,rfl⟩:=Int.eq_ofNat_of_zero_le o3;rw[n'.out]at afw;have ie:k<l.sc.length:=by rw[n'.out];omega
 have aE:l.sc[k]?=some (l.sc[k]'ie):=a8 ie;rw[Int.toNat_natCast,aE,Option.getD_some]at gB;have I8:=hid (show N2=nT ca l (l.sc[k]'ie) ⟨dt,ins,mem⟩ d from by
  rw[←nJ.out];unfold h3;rw[wu.out,if_pos rfl,Int.toNat_natCast,aE,Option.getD_some])
 generalize l.sc[k]'ie=s at*;have lp:=List.mem_of_getElem? aE;obtain⟨aO,aN⟩:=fF.sc.small lp;obtain⟨cK,dA⟩:=fF.sc.aaH lp;have Pu:=fF.sc.H8;obtain⟨p9,-,L6⟩:=Pu.b0 lp;have L7:=(Pu.sc s lp).ok.ac;have qh:=hid (fun w1 (h:Kept w w1)=>ahg _ l k s w1 (e7.out.kept h) aE (fF.sc.ms aE) (fun t bS=>by have:=(fF.sc.small bS).2;omega));unfold LO at qh;have I4:=hid (fun (dI ws:World) (P D M:Nat) (bo b6 bA hX hQ hz:Value) (fR:Option Addr) (ab:Kept dI ws) (eV:JC dI P D M bo b6 bA hX hQ hz s (b0 l s)) (bM:Dy P D M fR bo b6 bA hX hQ hz s (b0 l s) (List.replicate s.ds.length false) (List.replicate (b0 l s).ds.length false) ws)=>
  ab9 dI ws P D M bo b6 bA hX hQ hz fR s (b0 l s) (List.replicate s.ds.length false) (List.replicate (b0 l s).ds.length false) d ab bM.1 eV.s eV.m bM.2.1 bM.2.2 (by rw[List.length_replicate];exact⟨ll,gB⟩) (List.length_replicate ..) (List.length_replicate ..) eV.Ir eV.pm eV.anJ eV.wd eV.an6 aO (by omega) cK (by omega) (L6 d ⟨ll,gB⟩))
 have kP:=hid (fun (dI cw:World) (P D M:Nat) (bo b6 bA hX hQ hz:Value) (fR:Option Addr) (h:Kept w cw) (aj:Kept dI cw) (eV:JC dI P D M bo b6 bA hX hQ hz s (b0 l s)) (bM:Dy P D M fR bo b6 bA hX hQ hz s (b0 l s) (k8 s.ds.length s.rs d) (lT s (b0 l s) d) cw)=>
  aeo _ _ _ l (k:Int) ⟨dt,ins,mem⟩ P D M fR bo b6 bA hX hQ hz s (b0 l s) (k8 s.ds.length s.rs d) (lT s (b0 l s) d) dI cw aj (e7.out.kept h) (dn.out.kept h) (cp.out.kept h) eV bM aO (by omega) cK (by omega) (IN _ _ _) (LK _ _ _) L7 p9.ac (abQ.out.kept h) gR)
 unfold Kz at kP;obtain⟨⟨fA,b_⟩,zV⟩:∃R,x' l (b0 l s) s ⟨dt,ins,mem⟩ (k8 s.ds.length s.rs d) (lT s (b0 l s) d)=R:=⟨_,rfl⟩;rw[zV]at kP;dsimp only at kP;have abD:=hid (fun (h:b_≠0)=>aep (R:=(fA,b_)) zV h);have abE:=hid (fun (h:b_=0)=>aeq (R:=(fA,b_)) zV h);have o1:=IN s.ds.length s.rs d;have Et:=LK s (b0 l s) d;have iE:=hid (fun (dI ws cw:World) (P D M:Nat) (bo b6 bA hX hQ hz:Value) (fR:Option Addr) (bM:Dy P D M fR bo b6 bA hX hQ hz s (b0 l s) (List.replicate s.ds.length false) (List.replicate (b0 l s).ds.length false) ws)
  (h:Rn P D M #[s.ag,s.ms,bo,b6,bA,.string (b0 l s).ag,.int .i64 (b0 l s).ms,hX,hQ,hz,.slice (some ⟨D,0,none⟩) (List.replicate s.ds.length false).length (List.replicate s.ds.length false).length,.slice fR (List.replicate (b0 l s).ds.length false).length (List.replicate (b0 l s).ds.length false).length]
   (mh (fZ s.ds.length s.rs d) ((List.replicate s.ds.length false).set d.toNat true)) ((hG s.ds.length s.rs d).foldl (pC (b0 l s).ds.length (b0 l s).rs) (List.replicate (b0 l s).ds.length false)) dI (.returned (.tuple #[])) cw)=>(show Dy P D M fR bo b6 bA hX hQ hz s (b0 l s) (k8 s.ds.length s.rs d) (lT s (b0 l s) d) cw from by
   obtain⟨-,-,g1,g2,g3⟩:=h;refine⟨?_,g2,fun hp=>⟨(bM.2.2 (by rw[List.length_replicate];rw[Et]at hp;exact hp)).1,g3 hp⟩⟩;rw[List.length_replicate,List.length_replicate]at g1;rw[o1,Et];exact g1))
 have cB:=hid (And.intro ll gB);have jI:(k:Int)<aaa:=by omega
 generalize b0 l s=m at*;clear fF ug gR aE lp aO aN cK dA p9 L6 L7 Pu zV o1 Et o3 ie ll gB;have bN:=(cg.out V ek).1.cell;have h5:=(cg.out V ek).1.lt;go_upto_region 5 with (go_at_call 21;refine (qh.out _ (cN.out.trans ek)).mono ?_;rintro a6 w2 ⟨P,D,M,fR,bo,b6,bA,hX,hQ,hz,rfl,a',eV,bM⟩;have qm:=hid eV;have bk:=hid bM;clear eV bM)
 have la:=hid (ek.trans a');have Hk2:=hid a';clear bN h5 a1 dz qh;go_upto_region 6 with (go_at_call 22;refine (I4.out V w2 P D M bo b6 bA hX hQ hz fR Hk2.out qm.out bk.out).mono ?_;rintro b7 cw hp;obtain rfl:b7= .returned (.tuple #[]):=hp.1;have cV:=hid hp;clear hp)
 have T0:=hid (cV.out.2.1);have gM:=hid (ek.trans T0.out);have bN:=(cg.out cw gM.out).1.cell;have h5:=(cg.out cw gM.out).1.lt;have eQ:=(cg.out cw gM.out).2.1.cell;have ev:=(cg.out cw gM.out).2.1.lt;go_upto_region 7 with (go_at_call 23;refine (kP.out V cw P D M bo b6 bA hX hQ hz fR (cN.out.trans gM.out) T0.out qm.out (iE.out V w2 cw P D M bo b6 bA hX hQ hz fR bk.out cV.out)).mono ?_;rintro fh eA ⟨u0,u1,u2,bZ,b3,cT,ha,h0,se,d',ey,qC,rfl,cG,Yp,xd,K9,⟨⟨IU,hY,dL,rfl⟩,⟨cl,en,dq,rfl⟩,⟨cM,dQ,dR,rfl⟩⟩,⟨z,rfl⟩,⟨aS,jv,im,rfl⟩,⟨aT,k4,i_,rfl⟩,⟨bU,mM,vU,rfl⟩,⟨ec,anU,L9,rfl⟩,⟨fB,xk,aoI,rfl⟩⟩;have Dl:=hid Yp;have HZ4:=hid xd;have nI:=hid K9;clear Yp xd K9)
 generalize ar:((eA.alloc _).alloc _).alloc _=X at*;obtain⟨bX,tK,-,anu⟩:=Kept.b7 ar;clear ar;have Jd:=hid ((cN.out.trans gM.out).trans (cG.trans bX));have jt:=cg.out _ (gM.out.trans (cG.trans bX));have fv:=jt.2.2.1;have gz:=jt.2.2.2;have hs4:w.heap.size+3<eA.heap.size:=by have:=(gM.out.trans cG).size;omega
 have jk:=hid bX;clear jt bN h5 eQ ev I4 kP iE;generalize eA.heap.size=aJ at*;obtain⟨az,m1⟩:=tK.p;obtain⟨a1,dz⟩:=anu.p;by_cases ah:b_=0
 case neg=>
  have hh:(b_ !=0)=true:=by simpa using ah
  have cv:=hid (show N2=(⟨0,0,0⟩,b_)from by
   rw[I8.out];exact abD.out ah)
  have bI:=hid ah;clear ah;obtain⟨ST,gp⟩:∃S:List ia,S=[(2,w.heap.size+1+1,44,#[.int .i64 0,.int .i64 0,.int .i64 0]),(4,w.heap.size+1+1+1,46,#[.int .i64 b_,.int .i64 d',.int .i64 ey,.int .i64 qC])]:=⟨_,rfl⟩;have ep:=hid (show na [(2,w.heap.size+1+1,44,#[(),(),()]),(4,w.heap.size+1+1+1,46,#[b_,d',ey,qC])]from by unfold na;simp);have fM:=hid (show∀s∈([(2,w.heap.size+1+1,44,#[(),(),()]),(4,w.heap.size+1+1+1,46,#[b_,d',ey,qC])]:List ia),∃cs,ao X s.2.1 s.2.2.1 cs∧cs.size=s.2.2.2.size from by
   intro s ax;simp only[List.mem_cons,List.not_mem_nil,or_false]at ax;rcases ax with rfl|rfl
   ·exact⟨_,fv,rfl⟩
   ·exact⟨_,gz,rfl⟩)
  have iF:=hid (show∀s∈([(2,w.heap.size+1+1,44,#[(),(),()]),(4,w.heap.size+1+1+1,46,#[b_,d',ey,qC])]:List ia),w.heap.size≤s.2.1∧w.heap.size+2≤s.2.1∧s.2.1≤w.heap.size+3 from by
   intro s ax;simp only[List.mem_cons,List.not_mem_nil,or_false]at ax;rcases ax with rfl|rfl<;>simp only<;>omega)
  have ga:=hid (fun (g o:Nat) (v:Value) (ai:g<w.heap.size+2∨w.heap.size+3<g) (aq:g<X.heap.size) (ah:X.cell? ⟨g,o,none⟩=some v)=>dc.cell (W0:=X) (n:=5) (S:=[(2,w.heap.size+1+1,44,#[(),(),()]),(4,w.heap.size+1+1+1,46,#[b_,d',ey,qC])]) (b:=g) (o:=o) (v:=v) (fun s ax=>by have:=(iF.out s ax).2;omega) aq ah);rw[←gp]at ep fM iF ga;have NE:Nonempty (dc X 5 ST):=dc.ne fM.out;go_upto_region 8 with fail
  have bZ:=ga.out (aJ+1+1) 0 _ (by omega) dz (a1 0);have b3:=ga.out (aJ+1+1) 1 _ (by omega) dz (a1 1);have cT:=ga.out (aJ+1+1) 2 _ (by omega) dz (a1 2);have ha:=ga.out (aJ+1+1) 3 _ (by omega) dz (a1 3);refine v_ (C:=gl X 5 ST) (by kernel_rfl) (by kernel_rfl) (by kernel_rfl) (fun _ _ h=>h.sZ) (gl.start fM.out) ?_;refine lu [_,_] [_,_,_] _ _ rfl (by subst gp;simp) ?_
  repeat (go_big_quiet_step (exact rfl))
  refine wpQuiet_nil ?_;refine nx (g:=w.heap.size+1+1) (T:=44) (cs:=[.int .i64 0,.int .i64 0,.int .i64 0]) (by subst gp;simp) (by subst gp;exact ep.out.apart _ (by simp)) rfl rfl rfl rfl rfl (by kernel_rfl) rfl ?_;refine lu [_] [_] _ _ rfl (by subst gp;simp) ?_
  repeat (go_big_quiet_step (exact rfl))
  refine wpQuiet_nil ?_;refine nx (g:=w.heap.size+1+1+1) (T:=46) (cs:=[.int .i64 b_,d',ey,qC]) (by subst gp;simp) (by subst gp;exact ep.out.apart _ (by simp)) rfl rfl rfl rfl rfl (by kernel_rfl) rfl ?_;refine vN ?_;intro wC hZ jq fi;subst gp;have mT:=fi.new jq (s:=(2,_,_,_)) (by simp;exact⟨rfl,rfl,rfl⟩) (by simp only;omega);have te:=fi.new jq (s:=(4,_,_,_)) (by simp;exact⟨rfl,rfl,rfl⟩) (by simp only;omega);have hL:=hid (fi.kept Jd.out (fun s ax=>(iF.out s ax).1));go_wp2_with fail
  have wb:=mT.cell;have uI:=te.cell;exact bodyPost_ret (v:= .tuple #[.agg #[(),(),()],(),.agg #[b_,d',ey,qC]]) (by simp[results,results9,go_sem,wb,uI]) rfl (zQ.mk cv.out (fun h=>absurd h bI.out) hL.out)
 subst ah;obtain⟨ay,dF,ud,afs⟩:=Dl.out rfl;obtain⟨ug,hlen⟩:=abE.out rfl;rw[ug]at I8;obtain⟨g,rfl⟩:=Int.eq_ofNat_of_zero_le cB.out.1;have qI:g<fA.length:=by rw[hlen];have:=cB.out.2;omega
 have Ln:fA[g]?=some (fA[g]'qI):=a8 qI;rw[Int.toNat_natCast,Ln,Option.getD_some]at I8;have gr:g<dF.length:=by rw[afs];have:=cB.out.2;omega
 have hrg:dF[g]?=some (dF[g]'gr):=a8 gr;generalize fA[g]'qI=x at*;generalize dF[g]'gr=aoJ at*;obtain⟨e5,fK,ks⟩:=x;obtain⟨A,cap,sW,rT⟩:=ay;simp only[Value.slice.injEq]at sW;obtain⟨rfl,rfl,rfl⟩:=sW;obtain⟨lg,o,rfl,J,KY⟩:=rT (by omega);have t0:=KY g _ Ln 0 _ rfl;have t1:=KY g _ Ln 1 _ rfl;have t2:=KY g _ Ln 2 _ rfl;obtain⟨nE,oq,n0,ig⟩:=ud;simp only[Value.slice.injEq]at n0;obtain⟨rfl,rfl,rfl⟩:=n0;obtain⟨bc,k4,rfl,dK,PV⟩:=ig (by omega);have u0:=PV g _ hrg 0 _ rfl;dsimp only at t0 t1 t2 u0;rw[Nat.add_zero]at t0;rw[Nat.add_zero,Nat.mul_one]at u0;obtain⟨sR,mE⟩:=nI.out rfl;have ea:=sR lg rfl;have tY:=mE bc rfl;have QG:w.heap.size+3<cw.heap.size:=by have:=gM.out.size;omega
 have hzz:=HZ4.out rfl;obtain⟨rfl,rfl,rfl⟩:=hzz;replace t0:=jk.out.ad J t0;replace t1:=jk.out.ad J t1;replace t2:=jk.out.ad J t2;replace u0:=jk.out.ad dK u0;have KU:=bd J jk.out.size;have aeQ:=bd dK jk.out.size;have B7:(g:Int)<fA.length:=by omega
 have alF:(g:Int)<dF.length:=by omega
 have cv:=hid I8;generalize fA.length=kj at*;generalize dF.length=nrl at*;clear KY PV rT ig sR mE;obtain⟨ST,gp⟩:∃S:List ia,S=[(11,w.heap.size+1+1,44,#[.int .i64 e5,.int .i64 fK,.int .i64 ks]),(13,w.heap.size+1+1+1,46,#[.int .i64 0,.int .i64 0,.int .i64 0,.int .i64 0])]:=⟨_,rfl⟩;have ep:=hid (show na [(11,w.heap.size+1+1,44,#[e5,fK,ks]),(13,w.heap.size+1+1+1,46,#[(),(),(),()])]from by unfold na;simp);have fM:=hid (show∀s∈([(11,w.heap.size+1+1,44,#[e5,fK,ks]),(13,w.heap.size+1+1+1,46,#[(),(),(),()])]:List ia),∃cs,ao X s.2.1 s.2.2.1 cs∧cs.size=s.2.2.2.size from by
  intro s ax;simp only[List.mem_cons,List.not_mem_nil,or_false]at ax;rcases ax with rfl|rfl
  ·exact⟨_,fv,rfl⟩
  ·exact⟨_,gz,rfl⟩)
 have iF:=hid (show∀s∈([(11,w.heap.size+1+1,44,#[e5,fK,ks]),(13,w.heap.size+1+1+1,46,#[(),(),(),()])]:List ia),w.heap.size≤s.2.1∧w.heap.size+2≤s.2.1∧s.2.1≤w.heap.size+3 from by
  intro s ax;simp only[List.mem_cons,List.not_mem_nil,or_false]at ax;rcases ax with rfl|rfl<;>simp only<;>omega)
 have ga:=hid (fun (g o:Nat) (v:Value) (ai:g<w.heap.size+2∨w.heap.size+3<g) (aq:g<X.heap.size) (ah:X.cell? ⟨g,o,none⟩=some v)=>dc.cell (W0:=X) (n:=14) (S:=[(11,w.heap.size+1+1,44,#[e5,fK,ks]),(13,w.heap.size+1+1+1,46,#[(),(),(),()])]) (b:=g) (o:=o) (v:=v) (fun s ax=>by have:=(iF.out s ax).2;omega) aq ah);rw[←gp]at ep fM iF ga;have NE:Nonempty (dc X 14 ST):=dc.ne fM.out;go_upto_region 9 with fail
 have e3:=ga.out aJ 0 _ (by omega) m1 (az 0);have ee:=ga.out aJ 1 _ (by omega) m1 (az 1);have fW:=ga.out lg _ _ (by omega) KU t0;have mS:=ga.out lg _ _ (by omega) KU t1;have td:=ga.out lg _ _ (by omega) KU t2;have MJ:=ga.out bc _ _ (by omega) aeQ u0;refine v_ (C:=gl X 14 ST) (by kernel_rfl) (by kernel_rfl) (by kernel_rfl) (fun _ _ h=>h.sZ) (gl.start fM.out) ?_;refine lu [_,_,_,_,_,_,_,_,_,_,_] [_,_,_] _ _ rfl (by subst gp;simp) ?_
 repeat (go_big_quiet_step (exact rfl))
 refine wpQuiet_nil ?_;refine nx (g:=w.heap.size+1+1) (T:=44) (cs:=[.int .i64 e5,fK,ks]) (by subst gp;simp) (by subst gp;exact ep.out.apart _ (by simp)) rfl rfl rfl rfl rfl (by kernel_rfl) rfl ?_;refine lu [_] [_] _ _ rfl (by subst gp;simp) ?_
 repeat (go_big_quiet_step (exact rfl))
 refine wpQuiet_nil ?_;refine nx (g:=w.heap.size+1+1+1) (T:=46) (cs:=[.int .i64 0,.int .i64 0,.int .i64 0,.int .i64 0]) (by subst gp;simp) (by subst gp;exact ep.out.apart _ (by simp)) rfl rfl rfl rfl rfl (by kernel_rfl) rfl ?_;refine vN ?_;intro wC hZ jq fi;subst gp;have mT:=fi.new jq (s:=(11,_,_,_)) (by simp;exact⟨rfl,rfl,rfl⟩) (by simp only;omega);have te:=fi.new jq (s:=(13,_,_,_)) (by simp;exact⟨rfl,rfl,rfl⟩) (by simp only;omega);have hL:=hid (fi.kept Jd.out (fun s ax=>(iF.out s ax).1));go_wp2_with fail
 have wb:=mT.cell;have uI:=te.cell;exact bodyPost_ret (v:= .tuple #[.agg #[e5,fK,ks],aoJ,.agg #[(),(),(),()]]) (by simp[results,results9,go_sem,wb,uI]) rfl (zQ.mk cv.out.out (fun _=>⟨rfl,rfl,rfl⟩) hL.out)
theorem O5 {l:cZ} {sc d:Int} {c:h9} (h:(h3 l sc c d).2≠0):(h3 l sc c d).1=v0:=by
 unfold h3 at h⊢;split
 ·rename_i I;rw[if_pos I]at h;exact O6 h
 ·rfl
def YO (R:bg×Int) (w:World) (e:Ending) (w':World):Prop:=e= .returned (.tuple #[.agg #[R.1.k,R.1.e,R.1.n],R.2])∧Kept w w'
theorem YP (bT pZ r4:Value) (l:cZ) (sc d:Int) (c:h9) (w:World) (bL:gy w bT l) (bC:ff w pZ c.ins) (br:ld w r4 c.mem) (fP:c.ins.length≤9223372036854775807) (nm:Mon w):
  Calls prog 26 #[bT,sc,.agg #[c.d,pZ,r4],d] w (YO (h3 l sc c d) w):=by
 have cv:=hid (fun w1 (h:Kept w w1)=>O4 bT pZ r4 l sc d c w1 (bL.kept h) (bC.kept h) (br.kept h) fP (nm.kept h));unfold zQ at cv;have A9:=hid (O5 (l:=l) (sc:=sc) (d:=d) (c:=c));generalize h3 l sc c d=R at*;obtain⟨⟨e5,fK,ks⟩,b_⟩:=R;dsimp only at cv A9;obtain⟨c_,b4,b2,rfl,aj,I,U⟩:=bL;obtain⟨cY,fw,rfl,-⟩:=aj;obtain⟨cU,cW,rfl,-⟩:=I;obtain⟨jU,hP,rfl,-⟩:=U;obtain⟨dS,gP,rfl,-⟩:=bC;obtain⟨eH,kY,rfl,-⟩:=br;obtain⟨dt,ins,mem⟩:=c;dsimp only at*;generalize l.bm.length=dN at*;generalize l.tb.length=dh at*;generalize l.sc.length=aaa at*;generalize ins.length=b1 at*;generalize mem.length=ew at*;clear fP nm;go_enter func26,ntmps26
 go_upto_region 1 with fail
 generalize ar:((w.alloc _).alloc _).alloc _=W at*;obtain⟨aF,ec,e0,h1⟩:=Kept.b7 ar;clear ar;have cN:=hid aF;obtain⟨bN,h5⟩:=ec.p;obtain⟨eQ,ev⟩:=e0.p;have vL:=h1.lt;go_upto_region 2 with (go_at_call 9;refine (cv.out _ cN.out).mono ?_;rintro az w1 ⟨r,a,b,f,rfl,-,ak⟩)
 generalize ar:(w1.alloc _).alloc _=V at*;obtain⟨fq,tK,Gh⟩:=Kept.a6 ar;clear ar;have bX:=ak.trans fq;have n1:=ak.size;clear bN h5 eQ ev aF;clear fq;generalize w1.heap.size=g1 at*;have fv:=h1.kept bX;have er:=hid (cN.out.trans bX);obtain⟨az,m1⟩:=tK.p;obtain⟨a6,m2⟩:=Gh.p;clear ec e0 h1 tK Gh bX ak;by_cases ah:b_=0
 case neg=>
  have hh:(b_ !=0)=true:=by simpa using ah
  have ck:=A9.out ah;unfold v0 at ck;simp only[bg.mk.injEq]at ck;obtain⟨rfl,rfl,rfl⟩:=ck;have fM:=hid (show∀s∈([(3,w.heap.size+1+1,44,#[(),(),()])]:List ia),∃cs,ao V s.2.1 s.2.2.1 cs∧cs.size=s.2.2.2.size from by
   intro s ax;simp only[List.mem_cons,List.not_mem_nil,or_false]at ax;subst ax;exact⟨_,fv,rfl⟩)
  have ep:=hid (show na [(3,w.heap.size+1+1,44,#[(),(),()])]from List.pairwise_singleton ..);have e3:=dc.cell (n:=5) (S:=[(3,w.heap.size+1+1,44,#[(),(),()])]) (b:=g1+1) (by intro s ax;simp only[List.mem_cons,List.not_mem_nil,or_false]at ax;subst ax;simp only;omega) m2 (a6 0);have NE:Nonempty (dc V 5 [(3,w.heap.size+1+1,44,#[(),(),()])]):=dc.ne fM.out;clear ah fv;go_upto_region 3 with fail
  refine v_ (C:=gl V 5 [(3,w.heap.size+1+1,44,#[(),(),()])]) (by kernel_rfl) (by kernel_rfl) (by kernel_rfl) (fun _ _ h=>h.sZ) (gl.start fM.out) ?_;refine lu [_,_,_] [_,_] 0 _ rfl (by simp) ?_
  repeat (go_big_quiet_step (exact rfl))
  refine wpQuiet_nil ?_;refine nx (g:=w.heap.size+1+1) (T:=44) (cs:=[.int .i64 0,.int .i64 0,.int .i64 0]) (by simp) (ep.out.apart _ (by simp)) rfl rfl rfl rfl rfl (by kernel_rfl) rfl ?_;refine lu [_] [] _ _ rfl (by simp) ?_
  repeat (go_big_quiet_step (exact rfl))
  refine wpQuiet_nil ?_;refine vN ?_;intro wC hZ jq fi;have mT:=fi.new jq (s:=(3,_,_,_)) (by simp;exact⟨rfl,rfl,rfl⟩) (by simp only;omega);have hL:=hid (fi.kept er.out (fun s ax=>by simp only[List.mem_cons,List.not_mem_nil,or_false]at ax;subst ax;simp only;omega));go_wp2_with fail
  have cq:=mT.cell;exact bodyPost_ret (v:= .tuple #[.agg #[(),(),()],b_]) (by simp[results,results26,go_sem,cq]) rfl ⟨rfl,hL.out⟩
 subst ah;have bq:=hid ((((fv.aP 0 e5).aP 1 fK).aP 2 ks).cell);have nH:=hid (((er.out.setCell (p:=⟨w.heap.size+1+1,0,none⟩) (by simp only;omega) e5).setCell (p:=⟨w.heap.size+1+1,1,none⟩) (by simp only;omega) fK).setCell (p:=⟨w.heap.size+1+1,2,none⟩) (by simp only;omega) ks);obtain⟨kx,E6,f8⟩:=fv.q;clear fv;go_wp2_with fail
 have cu:=bq.out;exact bodyPost_ret (v:= .tuple #[.agg #[e5,fK,ks],()]) (by simp[results,results26,go_sem,cu]) rfl ⟨rfl,nH.out⟩
structure kL (A B:cZ) (sc d:Int):Prop where
 EZ:oR A
 Aq:oR B
 s7:rl A sc d
 CN:vb A B
def fV (L:cZ) (sc:Int):bP:=L.sc[sc.toNat]?.getD iq
def N3 (A B:cZ) (sc d:Int) (x:jV):Prop:=(x.k≠2∧rq A (fV A sc) d x.sc x.dF)∨(x.k≠1∧rq B (fV B sc) d x.sc x.dF)
noncomputable def uy (A B:cZ) (sc d:Int) (x:jV):Bool:= @decide (N3 A B sc d x) (Classical.propDecidable _)
noncomputable def vW (A B:cZ) (sc d:Int):List jV:=(j2 A B).filter (uy A B sc d)
theorem aai {A B:cZ} {sc d:Int} {x:jV}:uy A B sc d x=true↔N3 A B sc d x:=by unfold uy;exact @decide_eq_true_iff _ (Classical.propDecidable _)
theorem vb.c1 {A B:cZ} (h:vb A B):A.c1=B.c1:=by
 unfold cZ.c1;apply List.ext_getElem (by rw[List.length_map,List.length_map];exact h.len);intro i I U;rw[List.length_map]at I U;rw[List.getElem_map,List.getElem_map];have:=h.sc i _ _ (a8 I) (a8 U);rw[this.ms,this.ins]
theorem vb.at_ {A B:cZ} (h:vb A B) {sc:Int} (ax:0≤sc∧sc<A.sc.length):A.sc[sc.toNat]?=some (fV A sc)∧B.sc[sc.toNat]?=some (fV B sc)∧lI (fV A sc) (fV B sc):=by
 have I:sc.toNat<A.sc.length:=by omega
 have U:sc.toNat<B.sc.length:=by rw[←h.len];exact I
 unfold fV;rw[a8 I,a8 U,Option.getD_some,Option.getD_some];exact⟨rfl,rfl,h.sc _ _ _ (a8 I) (a8 U)⟩
theorem kL.fz {A B:cZ} {sc d:Int} (h:kL A B sc d):rl B sc d:=by
 obtain⟨I,U⟩:=h.s7;obtain⟨-,-,ae⟩:=h.CN.at_ I;refine⟨by rw[←h.CN.len];exact I,?_⟩;have aJ:=ae.ds;unfold fV at aJ;rw[←aJ];exact U
def ab8 (R S:bg×Int):Prop:=(R.2=0↔S.2=0)∧R.1=S.1
theorem kL.same {A B:cZ} {sc d:Int} (h:kL A B sc d) (aH:vW A B sc d=[]) (c:h9):ab8 (h3 A sc c d) (h3 B sc c d):=by
 have e:qs A sc c d=qs B sc c d:=by
  rw[Gv h.EZ h.s7,Gv h.Aq h.fz,h.CN.c1];unfold cZ.ms;rw[h.CN.bm]
 obtain⟨I,U⟩:=h.s7;obtain⟨aZ,J,-⟩:=h.CN.at_ I;unfold h3;rw[←e];split
 ·have bS:=ajW h.EZ.sc.H8 h.Aq.sc.H8 h.CN aZ J U (fun x af au=>by
   have:x∈vW A B sc d:=List.mem_filter.2 ⟨af,aai.2 au⟩;rw[aH]at this
   cases this)
  exact bS.both
 ·exact⟨Iff.rfl,rfl⟩
noncomputable def lh (A B:cZ) (sc d:Int) (c:h9):kS:=⟨(h3 A sc c d).1,(h3 B sc c d).1,(h3 A sc c d).2,(h3 B sc c d).2⟩
theorem adI {A B:cZ} {sc d:Int} (h:kL A B sc d) (c:h9) (ah:lX (lh A B sc d c)):0<(vW A B sc d).length:=by
 rcases Nat.eq_zero_or_pos (vW A B sc d).length with aj|aj
 ·have ax:=h.same (List.eq_nil_of_length_eq_zero aj) c;unfold lX lh at ah;dsimp only at ah;obtain⟨I,U⟩:=ax;rcases ah with⟨-,-,ae⟩|⟨ae,aJ⟩
  ·exact absurd U ae
  ·rcases aJ with aJ|aJ
   ·exact absurd ⟨aJ,I.1 aJ⟩ ae
   ·exact absurd ⟨I.2 aJ,aJ⟩ ae
 ·exact aj
theorem adl {A B:cZ} {sc d:Int} {c:h9}:lX (lh A B sc d c)↔¬((h3 A sc c d).1=(h3 B sc c d).1∧((h3 A sc c d).2=0↔(h3 B sc c d).2=0)):=by
 unfold lX lh;dsimp only;by_cases I:(h3 A sc c d).2=0
 ·by_cases U:(h3 B sc c d).2=0
  ·constructor
   ·rintro (⟨-,-,h⟩|⟨h,-⟩)
    ·exact fun dp=>h dp.1
    ·exact absurd ⟨I,U⟩ h
   ·exact fun h=> .inl ⟨I,U,fun e=>h ⟨e,iff_of_true I U⟩⟩
  ·exact⟨fun _ h=>U (h.2.1 I),fun _=> .inr ⟨fun h=>U h.2,.inl I⟩⟩
 ·by_cases U:(h3 B sc c d).2=0
  ·exact⟨fun _ h=>I (h.2.2 U),fun _=> .inr ⟨fun h=>I h.1,.inr U⟩⟩
  ·constructor
   ·rintro (⟨h,-⟩|⟨-,h|h⟩)
    ·exact absurd h I
    ·exact absurd h I
    ·exact absurd h U
   ·intro h;exact absurd ⟨by rw[O5 I,O5 U],iff_of_false I U⟩ h
def ahi:ByteArray:=⟨#[104,111,117,115,101]⟩
def ahh:ByteArray:=⟨#[98,97,115,101]⟩
def s_ (c:UInt8):lE:=⟨⟨#[c]⟩,3,0⟩
def CO (x:cz):bf:=⟨ahh,0,-1,0,0,109573,[],[x],⟨#[]⟩⟩
def Fp (x:cz):bP:=⟨ahi,-1,[s_ 97],[s_ 100],[CO x]⟩
def iN (x:cz):cZ:=⟨[],[],[Fp x]⟩
def oD:cz:=⟨7,0⟩
def o_:cz:=⟨3,700⟩
def xr:h9:=⟨0,[⟨3,0,500⟩],[]⟩
theorem Mu {α:Type} {P:Nat→α→Prop} {x:α} (h:P 0 x):∀j y,[x][j]?=some y→P j y:=fun j y aB=>by
 match j,aB with
 |0,aB=>cases aB;exact h
theorem ajy {x:cz} (h:x=oD∨x=o_):tL (xq (iN x) (Fp x)) (Fp x) 0 (CO x):=by
 rcases h with rfl|rfl<;>exact
  {id:=by decide+kernel,yG:=rfl,bK:=by decide+kernel,bD:= .inl rfl,fa:=by decide+kernel,uF:=by decide+kernel,gX:=by decide+kernel,vZ:=by decide+kernel
   GV:=fun h=>by cases h
   fA:=fun f bO=>by cases bO;rfl}
theorem aa2 (c:UInt8) (h:c=97∨c=100) (a b:List lE) (aZ:(s_ c).ag∉a.map (·.ag)) (J:(s_ c).ag∉b.map (·.ag)):po [] (s_ c) a b:=by
 refine⟨?_,aZ,J,rfl⟩;rcases h with rfl|rfl<;>decide+kernel
theorem ajA {x:cz} (h:x=oD∨x=o_):oh (iN x) 0 (Fp x):=by
 have aH:=ajy h;rcases h with rfl|rfl<;>exact
  {ne:=rfl,ik:=rfl,yG:=rfl,id:=by decide+kernel,ms:= .inl rfl,i12:=by decide+kernel,d12:=by decide+kernel
   ins:=Mu (P:=fun j f=>po _ f (List.take j [s_ 97]) []) (aa2 97 (.inl rfl) _ _ (by simp) (by simp))
   ds:=Mu (P:=fun j f=>po _ f [s_ 97] (List.take j [s_ 100])) (aa2 100 (.inr rfl) _ _ (by simp[s_]) (by simp))
   rs:=Mu (P:=fun j r=>tL _ _ j r) aH
   ac:=fun d av=>by
    obtain rfl:d=0:=Nat.lt_one_iff.1 av;decide+kernel}
theorem Se {x:cz} (h:x=oD∨x=o_):oR (iN x):=
 ⟨⟨Nat.zero_le _,fun i y db=>by simp[iN]at db⟩,⟨Nat.zero_le _,fun i y db=>by simp[iN]at db⟩,⟨by simp[iN],Mu (P:=fun i s=>oh (iN x) i s) (ajA h)⟩⟩
theorem ajB:vb (iN oD) (iN o_):=⟨rfl,rfl,rfl,fun i s t ax bS=>by
 match i,ax,bS with
 |0,ax,bS=>cases ax;cases bS;exact⟨rfl,rfl,rfl,rfl⟩⟩
theorem aa3 (x:cz):rl (iN x) 0 0:=⟨by simp[iN],by simp[iN,Fp]⟩
theorem ajt:kL (iN oD) (iN o_) 0 0:=⟨Se (.inl rfl),Se (.inr rfl),aa3 _,ajB⟩
theorem aa1 {x:cz} (h:x=oD∨x=o_):qs (iN x) 0 xr 0=0:=by
 rw[Gv (Se h) (aa3 x)];rcases h with rfl|rfl<;>decide+kernel
theorem ajv:h3 (iN oD) 0 xr 0=(⟨3,0,500⟩,0):=by
 unfold h3;rw[if_pos (aa1 (.inl rfl))];kernel_rfl
theorem ajw:h3 (iN o_) 0 xr 0=(⟨3,0,700⟩,0):=by
 unfold h3;rw[if_pos (aa1 (.inr rfl))];kernel_rfl
theorem Sd:lh (iN oD) (iN o_) 0 0 xr=⟨⟨3,0,500⟩,⟨3,0,700⟩,0,0⟩:=by unfold lh;rw[ajv,ajw]
structure Dt where
 qN:kS
 bA:Value
def Am (x:Dt):List Value:=[.int .i64 x.qN.o.k,x.qN.o.e,x.qN.o.n,x.qN.n.k,x.qN.n.e,x.qN.n.n,x.qN.ft,x.qN.gF,x.bA]
theorem afQ (x:Dt):(Am x).length=9:=rfl
theorem afR {x:Dt} (h:x.bA.oneCell'=true):∀u∈Am x,u.oneCell'=true:=by
 intro u hu;simp only[Am,List.mem_cons,List.not_mem_nil,or_false]at hu;rcases hu with rfl|rfl|rfl|rfl|rfl|rfl|rfl|rfl|rfl<;>first|rfl|exact h
noncomputable def BF (x:kS):Bool:= @decide (lX x) (Classical.propDecidable _)
theorem Ox {x:kS} (h:lX x):BF x=true:=by unfold BF;exact @decide_eq_true _ (Classical.propDecidable _) h
theorem UZ {x:kS} (h:¬lX x):BF x=false:=by unfold BF;exact @decide_eq_false _ (Classical.propDecidable _) h
noncomputable def mA (l:List kS):Nat:=(l.filter BF).length
theorem U1 (l:List kS):mA l≤l.length:=List.length_filter_le ..
theorem ajr {α:Type} {l:List α} {i:Nat} {x:α} (h:l[i]?=some x):l.take (i+1)=l.take i++[x]:=by rw[List.take_add_one,h,Option.toList_some]
theorem U2 {l:List kS} {i:Nat} {x:kS} (h:l[i]?=some x):mA (l.take (i+1))=mA (l.take i)+(if BF x=true then 1 else 0):=by
 unfold mA;rw[ajr h,List.filter_append,List.length_append]
 cases J:BF x<;>simp[J]
def tO (x:kS):List Int:=if x.ft=0∧x.o.k=3 then [x.o.n]else []
def sD (x:kS):List Int:=if x.gF=0∧x.n.k=3 then [x.n.n]else []
theorem UE (x:kS):(tO x).length≤1:=by unfold tO;split<;>simp
theorem Up (x:kS):(sD x).length≤1:=by unfold sD;split<;>simp
def Br (l:List kS):Prop:=(uA (l.flatMap tO) 0).2=0∧(uA (l.flatMap sD) 0).2=0
def uB (a b c d e f g:Int):Value:= .agg #[a,b,c,d,e,f,g]
def Kd (x:kS) (w:World) (r:Ending) (w':World):Prop:=∃h g q f:Int,r= .returned (uB 1 h g q f 0 0)∧(lX x→h=1)∧(¬lX x→h=0)∧(0≤h∧h≤1)∧(0≤g∧g≤1)∧(0≤q∧q≤1)∧(0≤f∧f≤1)∧Kept w w'
def aaW (l:List kS) (w:World) (r:Ending) (w':World):Prop:=∃a b c d e f g k:Int,r= .returned (.tuple #[uB a b c d e f g,k])∧(k=0↔Br l)∧(k=0→a=l.length∧b=mA l)∧Kept w w'
def T2 (n:Nat) (x:Dt):Prop:=∃A ky,x.bA= .slice A n ky
def aas (A B:cZ) (sc d:Int) (cs:List h9) (w:World) (r:Ending) (w':World):Prop:=∃(v:Value) (a b c e f g h k:Int),r= .returned (.tuple #[v,uB a b c e f g h,k])∧Kept w w'∧
 (k≠0→v= .slice none 0 0)∧
 (k=0→(∃xs,gV w' Am 9 v xs∧xs.map (·.qN)=cs.map (lh A B sc d)∧∀x∈xs,T2 (vW A B sc d).length x)∧a=cs.length∧b=mA (cs.map (lh A B sc d))∧(cs≠[]→kL A B sc d))∧
 (kL A B sc d→Br (cs.map (lh A B sc d))→k=0)
def RV (S:ByteArray→ByteArray→Prop) (w:World) (e:Ending) (w':World):Prop:=∃b n F,e= .returned (.map (some b))∧gb 112 b n F w'∧nM F S∧Kept w w'
def r5 (m:bP) (l:List Int):List Int:=l.flatMap fun e=>e::fZ m.ds.length m.rs e
theorem Rf {m:bP} {l:List Int} {f:Int}:f∈r5 m l↔∃e∈l,sy m.ds.length m.rs e f:=by
 unfold r5 sy;simp only[List.mem_flatMap,List.mem_cons]
theorem Mw (n:Nat) (rs:List bf) (d:Int):(fZ n rs d).length≤n:=by
 unfold fZ;split
 ·unfold qY;rw[List.length_map];exact Nat.le_trans (List.length_filter_le _ _) (by rw[List.length_range];exact Nat.le_refl _)
 ·exact Nat.zero_le _
theorem Rg (m:bP):∀l:List Int,(r5 m l).length≤l.length*(m.ds.length+1)
 |[]=>Nat.zero_le _
 |e::l=>by
  have I:=Rg m l;have U:=Mw m.ds.length m.rs e;unfold r5 at I⊢;rw[List.flatMap_cons,List.length_append,List.length_cons,List.length_cons,Nat.succ_mul];omega
theorem ag6 {m:bP} {l:List Int} {i:Nat} {e:Int} (h:l[i]?=some e):r5 m (l.take (i+1))=(r5 m (l.take i)++[e])++fZ m.ds.length m.rs e:=by
 unfold r5;rw[List.take_add_one,h,Option.toList_some,List.flatMap_append,List.flatMap_cons,List.flatMap_nil,List.append_nil,List.append_assoc,List.singleton_append]
theorem ag5 {m:bP} {l:List Int} (h:gU m.ds.length l):gU m.ds.length (r5 m l):=fun f bO=>by
 obtain⟨e,he,aH⟩:=Rf.1 bO;rcases aH with rfl|aH
 ·exact h _ he
 ·exact CQ m.ds.length m.rs e _ aH
theorem Lt {X:World} {g T:Nat} {d:Int} (h:ao X g T #[d]):fC X (.slice (some ⟨g,0,none⟩) 1 1) [d]:=
 ⟨some ⟨g,0,none⟩,1,rfl,fun _=>⟨g,0,rfl,h.lt,fun j x aB i u hu=>by
  match j,aB with
  |0,aB=>
   cases aB;match i,hu with
   |0,hu=>cases hu;exact h.cell 0⟩⟩
theorem aaj (bT:Value) (l:cZ) (sc d:Int) (w:World) (bL:gy w bT l) (dZ:oi l) (aw:rl l sc d):Calls prog 27 #[bT,sc,d] w (RV (rq l (fV l sc) d) w):=by
 obtain⟨⟨o3,n1⟩,ll,gB⟩:=aw;obtain⟨k,rfl⟩:∃k:Nat,sc=k:=⟨sc.toNat,by omega⟩;have j8:k<l.sc.length:=by omega
 have eG:l.sc[k]?=some (fV l k):=by unfold fV;rw[Int.toNat_natCast,a8 j8,Option.getD_some]
 have gB:d<(fV l k).ds.length:=gB;have rM:=List.mem_of_getElem? eG;obtain⟨lp,K0⟩:=dZ.small rM;obtain⟨Qt,K1⟩:=dZ.aaH rM;obtain⟨-,-,Es⟩:=dZ.H8.b0 rM;have C':=hid (Es d ⟨ll,gB⟩);have qf:=hid (show (hG (fV l k).ds.length (fV l k).rs d).length≤12 from Nat.le_trans (vQ _ _ (by
  unfold hG;split
  ·exact (R6 _).2.imp (fun h=>Int.ne_of_lt h)
  ·exact List.nodup_nil) C'.out) K1)
 have HMT:=hid (fun (x:Int) (bW:Value) (w1:World) (h:iH w1 bW (b0 l (fV l k)))=>IH bW (b0 l (fV l k)) x w1 h Qt (by omega));have HMC:=hid (fun (b n:Nat) (F:Value→Option Value) (S:ByteArray→ByteArray→Prop) (bW:Value) (dI X:World) (v:Value) (B:Nat) (br:gb 112 b n F X) (aA:n≤1000) (hF:nM F S) (aa:Kept dI X) (J:dI.heap.size≤b) (bj:iH dI bW (b0 l (fV l k))) (ax:(b0 l (fV l k)).ag.size≤140737488355328) (da:cn X B v (r5 (b0 l (fV l k)) (hG (fV l k).ds.length (fV l k).rs d)))=>
  Vc b n F S bW v (b0 l (fV l k)) _ dI X br (by have:=Qt.1;omega) hF aa J bj ax da.reads (fun x af=>by have:=ag5 C'.out x af;omega)
   (Nat.le_trans (Rg _ _) (Nat.le_trans (Nat.mul_le_mul qf.out (Nat.succ_le_succ K1)) (by decide))))
 have tt:=hid (show∀i,(r5 (b0 l (fV l k)) ((hG (fV l k).ds.length (fV l k).rs d).take i)).length≤1000 from fun i=>Nat.le_trans (Rg _ _) (Nat.le_trans (Nat.mul_le_mul (by rw[List.length_take];exact Nat.le_trans (Nat.min_le_right _ _) qf.out) (Nat.succ_le_succ K1)) (by decide)));have Da:=hid (show∀x,(fZ (b0 l (fV l k)).ds.length (b0 l (fV l k)).rs x).length≤12 from fun x=>Nat.le_trans (Mw _ _ _) K1);have w_:=dZ.ms eG;obtain⟨c_,b4,b2,rfl,aj,I,U⟩:=bL;obtain⟨cY,fw,rfl,-⟩:=aj;obtain⟨cU,cW,rfl,-⟩:=I;obtain⟨jU,hP,rfl,-,Eo,pY⟩:=U;obtain⟨n7,AM,rfl,fs,ih⟩:=pY (by omega);have Dg:=hid ih;obtain⟨⟨t0,kf⟩,⟨t1,-⟩,⟨bo,t2,bC⟩,⟨b6,t3,b'⟩,⟨bA,t4,aw⟩⟩:=ih k _ eG;have cp:=hid (show 0≤(fV l k).ms→l.sc[(fV l k).ms.toNat]?=some (b0 l (fV l k))from fun h=>by
  unfold b0;rw[if_pos h,a8 (by rcases w_ with h|h<;>omega),Option.getD_some])
 have Jq:=hid (show∀a b,rq l (fV l k) d a b↔((∃r∈(fV l k).rs,(r.bK∈fZ (fV l k).ds.length (fV l k).rs d++[d])∧a=(fV l k).ag∧b=r.ag)∨
   (0≤(fV l k).ms∧∃r∈(b0 l (fV l k)).rs,r.bK∈r5 (b0 l (fV l k)) (hG (fV l k).ds.length (fV l k).rs d)∧a=(b0 l (fV l k)).ag∧b=r.ag))from fun a b=>by
  unfold rq;refine or_congr (exists_congr fun r=>and_congr Iff.rfl (and_congr ?_ Iff.rfl)) ⟨fun⟨I,_,r,ae,aJ,bp⟩=>⟨I,r,ae,Rf.2 aJ,bp⟩,fun⟨I,r,ae,aJ,bp⟩=>⟨I,by rcases w_ with h|h<;>omega,r,ae,Rf.1 aJ,bp⟩⟩;unfold sy;rw[List.mem_append,List.mem_singleton,or_comm])
 clear dZ ih eG rM;generalize b0 l (fV l k)=m at*;generalize fV l k=s at*;have zm:=hid (show iH w (.agg #[s.ag,s.ms,bo,b6,bA]) s from⟨bo,b6,bA,rfl,bC,b',aw⟩);obtain⟨gN,gS,rfl,-⟩:=bC;obtain⟨fo,fS,rfl,-⟩:=b';obtain⟨eC,rc,rfl,-,B',-⟩:=aw;have sr:=hid (fun (w1:World) (h:Kept w w1)=>IH _ s d w1 (zm.out.kept h) lp (by omega));have tu:=hid (fun (w1:World) (h:Kept w w1)=>Zq _ s d w1 (zm.out.kept h) lp (by omega));have vw:∀x∈fZ s.ds.length s.rs d++[d],0≤x∧x≤1000000:=fun x af=>by
  rcases List.mem_append.1 af with af|af
  ·have:=CQ s.ds.length s.rs d x af;omega
  ·rw[List.mem_singleton.1 af];omega
 have B0:(fZ s.ds.length s.rs d++[d]).length≤1000000:=by
  have:=Mw s.ds.length s.rs d;rw[List.length_append,List.length_singleton];omega
 have wz:=hid (show (fZ s.ds.length s.rs d).length≤12 from Nat.le_trans (Mw _ _ _) K0);have EG:0+s.rs.length≤1000000:=by have:=lp.1;omega
 have X':s.rs.length≤1000:=by have:=lp.1;omega
 have xD:=hid (fun (b:Nat) (F:Value→Option Value) (V X:World) (v:Value) (QH:Kept w V) (J:w.heap.size≤b) (br:gb 112 b 0 F V) (hF:nM F (fun _ _=>False)) (aa:Kept V X) (da:cn X V.heap.size v (fZ s.ds.length s.rs d++[d]))=>
  Vc b 0 F (fun _ _=>False) _ v s (fZ s.ds.length s.rs d++[d]) w X (br.kept aa) EG hF (QH.trans aa) J zm.out kf da.reads vw B0)
 unfold ed at t0 t1 t2 t3 t4;generalize fZ s.ds.length s.rs d=lz at*;generalize b':lz++[d]=D at*;have M7:=hid b';clear b';generalize hG s.ds.length s.rs d=md at*;generalize s.ins.length=b1 at*;generalize s.ds.length=cS at*;generalize l':s.rs.length=c' at*;generalize l.bm.length=dN at*;generalize l.tb.length=dh at*;generalize lR:l.sc.length=aaa at*;have Bc:=hid w_;have lG:=hid (show c'≤1000 from X');have kQ:=hid kf;have rK:(k:Int)<aaa:=by omega
 clear lp X' Qt Es vw B0 EG w_ l' lR kf;go_enter func27,ntmps27
 go_upto_region 1 with fail
 generalize ar:w.alloc _=W0 at*;obtain⟨aF,bU⟩:=Kept.az ar;clear ar;have Cb:=run_makeMap (P:=prog) 109 W0;go_upto_region 2 with fail
 clear Cb;have G7:=gb.made 112 W0;have bB:=aF.trans ((aQ W0).alloc (.map #[] 0));have MT:=bU.kept ((aQ W0).alloc (.map #[] 0));have jt:=aF.size;have tY:=Nat.ne_of_lt bU.lt;clear bU;generalize W0.alloc (.map #[] 0)=ct at*;generalize W0.heap.size=b at*;replace t0:=bB.ad fs t0;replace t1:=bB.ad fs t1;replace t2:=bB.ad fs t2;replace t3:=bB.ad fs t3;replace t4:=bB.ad fs t4;have vI:=bd fs bB.size;obtain⟨a1,dz⟩:=MT.p;go_upto_region 3 with fail
 generalize ar:ct.alloc _=V at*;obtain⟨bX,h1⟩:=Kept.az ar;clear ar;have Sy:=MT.kept bX;have Pw:=G7.kept bX;have bR:=bB.trans bX;have WY:=Nat.ne_of_gt G7.lt;clear t0 t1 t2 t3 t4 vI a1 dz MT G7 bB bX;generalize ct.heap.size=g8 at*;have hbV:=Pw.lt;have TG:=hid Pw;have y8:=hid h1;have ji:=hid Sy;have oQ:nM (fun _=>none) (fun _ _=>False):=fun _ _=>⟨fun h=>h.elim,fun _=>rfl⟩;have Ta:=hid (fun X v aa da=>xD.out b _ V X v bR jt TG.out oQ aa da);have ej:=hid (show∀X,Kept w X→ao X g8 64 #[s.ag,s.ms,.slice gN b1 gS,.slice fo cS fS,.slice eC c' rc]→(Kept w X∧X.cell? ⟨g8,0,none⟩=some (.string s.ag)∧X.cell? ⟨g8,1,none⟩=some (.int .i64 s.ms)∧X.cell? ⟨g8,2,none⟩=some (.slice gN b1 gS)∧X.cell? ⟨g8,3,none⟩=some (.slice fo cS fS)∧X.cell? ⟨g8,4,none⟩=some (.slice eC c' rc))from fun X h B=>⟨h,B.cell 0,B.cell 1,B.cell 2,B.cell 3,B.cell 4⟩);have vL:=h1.lt;obtain⟨-,z0,e6,z2,z3,z4⟩:=ej.out V bR h1;clear Pw h1 Sy oQ xD;go_cut [7] (fun x bt=>x= .map (some b)∧Kf b c' (tQ (fun _ _=>False) s D s.rs) V (.returned (.tuple #[])) bt)
 case first=>
  go_region_held3 (fun X=>Kept w X∧X.cell? ⟨g8,0,none⟩=some (.string s.ag)∧X.cell? ⟨g8,1,none⟩=some (.int .i64 s.ms)∧X.cell? ⟨g8,2,none⟩=some (.slice gN b1 gS)∧X.cell? ⟨g8,3,none⟩=some (.slice fo cS fS)∧X.cell? ⟨g8,4,none⟩=some (.slice eC c' rc))
   ((refine ej.out _ ?_ ?_;(·first|with_reducible assumption|(with_reducible repeat (first|exact .refl _|assumption|refine .drew ?_|refine .alloc ?_ _|refine .trans ?_ ‹Kept _ _›)));(·first|with_reducible assumption|(refine y8.out.kept ?_;(with_reducible repeat (first|exact .refl _|assumption|refine .drew ?_|refine .alloc ?_ _|refine .trans ?_ ‹Kept _ _›))))))
   (first
    |(go_at_call 34;refine (sr.out _ (bR.trans ?_)).mono ?_;(·(with_reducible repeat (first|exact .refl _|assumption|refine .drew ?_|refine .alloc ?_ _|refine .trans ?_ ‹Kept _ _›)));rintro e dV ⟨u6,rfl,BU,eW⟩;have NS:Kept V dV:=(by (with_reducible repeat (first|exact .refl _|assumption|refine .drew ?_|refine .alloc ?_ _|refine .trans ?_ ‹Kept _ _›)));have NT:=bR.trans NS;have wo:=hid (cn.low BU (show V.heap.size≤_ by (try simp)<;>omega));obtain⟨q4,eQ,rfl⟩:=il BU;clear BU)
    |(go_at_call 47;refine (Ta.out _ _ Du HO7.out).mono ?_;rintro e ta ⟨rfl,E6,A2,Cc,zW,wW,yj⟩;have KW8:Kept w ta:=yj.kept KW7 jt;have h1:=yj.fD lW WY;have cv:=hid (And.intro Cc (And.intro zW (And.intro wW ((Two.iZ Du).trans yj (.inl rfl)))));clear Cc zW wW yj)
    |(refine aaM rfl (.tmp 23) (.tmp 25) rfl rfl (base:=V.heap.size) (by first|exact wo.out|exact wo.out.kH ((aQ _).alloc _)) rfl (Lt (by first|exact ao.new _ _ _|exact (ao.new V _ _).kept (Kept.trans (Kept.drew (aQ _)) eW))) (by have:=wz.out;(try simp)<;>omega) (by have:=NS.size;(try simp)<;>omega) ?_;intro sb jT vo wV BO;rw[M7.out]at vo;have Du:Kept V jT:=kg (by (with_reducible repeat (first|exact .refl _|assumption|refine .drew ?_|refine .alloc ?_ _|refine .trans ?_ ‹Kept _ _›))) (by first|exact wo.out|exact wo.out.kH ((aQ _).alloc _)) (Nat.le_refl _) wV;have lW:=y8.out.kept Du;have KW7:=bR.trans Du;obtain⟨Fy,kv,rfl⟩:=il vo;have HO7:=hid vo;clear vo wV BO))
  all_goals
   rename_i hHeld;clear hHeld;go_wp2_with fail
   go_meet;exact⟨rfl,rfl,E6,A2,by have:=cv.out.1;omega,cv.out.2.1,cv.out.2.2.1,cv.out.2.2.2⟩
 case rest=>
  obtain⟨rfl,-,E6,A2,Cc,zW,wW,yj⟩:=hcut;generalize wc=wJ at*;have h1:=yj.fD y8.out WY;have bU:=yj.fD ji.out tY;have al:=yj.kept bR jt;have l':c'≤1000:=lG.out;clear yj ej Ta y8 ji z0 e6 z2 z3 z4 vL TG sr;rcases Bc.out with hm|⟨yn,kD⟩
  ·have gR:s.ms<0:=by omega
   have cV:=hid (show RV (rq l s d) w (.returned (.map (some b))) wJ from⟨b,E6,A2,rfl,zW,wW.HW (fun x y=>(Iff.trans (Jq.out x y) (by
    unfold tQ;constructor
    ·rintro (h|⟨h,-⟩)
     ·exact .inr h
     ·omega
    ·exact fun h=> .inl (h.resolve_left id))).symm),al⟩)
   obtain⟨kx,vL⟩:=h1.p;clear zW wW;go_wp2_with fail
   go_ret;exact cV.out
  ·obtain⟨q,au⟩:∃q:Nat,s.ms=q:=⟨s.ms.toNat,by omega⟩;have Qb:=cp.out yn;rw[au]at kD h1;rw[au,Int.toNat_natCast]at Qb;have bz:=hid au;have HQ0:=hid yn;have Le:¬((q:Int)<0):=by omega
   have jJ:decide ((aaa:Int)≤(q:Int))=false:=decide_eq_false (by omega);have rR:(0:Int)≤(q:Int):=by omega
   have Ck:q<aaa:=by omega
   obtain⟨⟨u0,XT⟩,⟨u1,-⟩,⟨QS,u2,l7⟩,⟨OV,u3,nV⟩,⟨RU,u4,eF⟩⟩:=Dg.out q _ Qb;have zl:=hid (show iH w (.agg #[m.ag,m.ms,QS,OV,RU]) m from⟨QS,OV,RU,rfl,l7,nV,eF⟩);obtain⟨l2,mf,rfl,-⟩:=l7;obtain⟨lY,jF,rfl,-⟩:=nV;obtain⟨sx,k7,rfl,-⟩:=eF;unfold ed at u0 u1 u2 u3 u4;replace u0:=al.ad fs u0;replace u1:=al.ad fs u1;replace u2:=al.ad fs u2;replace u3:=al.ad fs u3;replace u4:=al.ad fs u4;have vI:=bd fs al.size;have abT:=hid XT;generalize m.ins.length=qR at*;generalize XK:m.ds.length=p1 at*;have abS:=hid XK;generalize afc:m.rs.length=oC at*;have HF8:=hid wW;obtain⟨kx,vL⟩:=h1.p;obtain⟨a1,dz⟩:=bU.p;clear wW XT Qb au yn afc XK;go_upto_region 7 with fail
   generalize ar:wJ.alloc _=JQ at*;obtain⟨bX,eM⟩:=Kept.az ar;clear ar;have SB:=h1.kept bX;have TC:=hid (zW.kept bX);have tF:=al.trans bX;have B0:=zW.lt;clear u0 u1 u2 u3 u4 vI kx vL a1 dz h1 bU zW;generalize wJ.heap.size=g9 at*;obtain⟨kx,vL⟩:=SB.p;have Ns:=hid (tu.out JQ tF);rw[bz.out]at Ns;go_upto_region 9 with (go_at_call 35;refine Ns.out.mono ?_;rintro e cf ⟨u5,rfl,Pz,cQ⟩;have wx:=hid (cn.row Pz);obtain⟨dk,bJ,rfl⟩:=il Pz;clear Pz)
   obtain⟨A5',c5',Yq,Yy⟩:=wx.out;simp only[Value.slice.injEq,true_and]at Yq;obtain⟨rfl,rfl⟩:=Yq;have HX5:=hid Yy;have SC:=eM.kept cQ;have Wp:=TC.out.kept cQ;have Tw:=hid (tF.trans cQ);have S3:=hid (fun X (h:Kept cf X)=>SC.kept h);have abP:=hid qf.out;have HN8:=hid (Nat.le_trans Cc l');clear Yy wx kx vL SB eM SC tu Ns TC cQ al bX tF Cc;generalize Af:md.length=ew at*;have Jl:=hid Af;clear Af;go_loopw [10,50] (fun v y wr=>∃i:Nat,y= .int .i64 i∧i≤ew∧Kept cf wr∧cn wr cf.heap.size v (r5 m (md.take i))) (fun _ y _=>ew-(intOf y).toNat)
   case atStart=>exact⟨0,rfl,Nat.zero_le _,aQ _,World.ownsRow_nil _ _ _ _⟩
   case round=>
    obtain⟨i,rfl,de,ab,da⟩:=hrel;by_cases aD:i<ew
    ·obtain⟨hs,rfl,alE,Xn,hx⟩:=HX5.out (by omega);have ai:md[i]?=some (md[i]'(by have:=Jl.out;omega)):=a8 _;have t0:=hx i _ ai;have mZ:=hid (ag6 (m:=m) ai);generalize md[i]'(by have:=Jl.out;omega)=x at*;replace t0:=ab.ad Xn t0;have sO:=bd Xn ab.size;have c6:(i:Int)<ew:=by omega
     have ns:(i:Int)+1≤9223372036854775807:=by have:=abP.out;have:=Jl.out;omega
     have sR:=tt.out i;obtain⟨anh,sF,rfl⟩:=il da;generalize cJ:r5 m (md.take i)=Q at*;have TB:=hid sR;have dM:=hid da;have du:=hid ab;have Nh:=hid (And.intro de aD);clear sR da ab ai hx cJ de;go_upto_region 11 with fail
     clear t0;go_upto_region 12 with (at_builtin;refine Fv rfl (.tmp 54) (.tmp 56) rfl rfl (dM.out.kH ((aQ _).alloc _)) rfl (Lt (ao.new _ _ _)) (by have:=TB.out;simp;omega) (by have:=du.out.size;simp;omega) ?_;intro v6 dV aO aN cK;have eN:=hid (And.intro aO aN);clear aO aN cK)
     have pt:=hid (kg (du.out.alloc _) (dM.out.kH ((aQ _).alloc _)) (Nat.le_refl _) eN.out.2);have wo:=hid eN.out.1;have FB:=S3.out dV pt.out;obtain⟨eZ,j_⟩:=FB.p;have Dh:=hid (HMT.out x _ dV (zl.out.kept (Tw.out.trans pt.out)));have abR:=hid (Da.out x);clear FB;generalize Wy:fZ p1 m.rs x=zx at*;have zi:=hid Wy;clear Wy;go_wp2_with (first|(go_at_call 34;refine Dh.out.mono ?_;rintro e jT ⟨u7,rfl,Wv,xi⟩;have jh:=hid (And.intro Wv xi);clear Wv xi)|(at_builtin;refine Fv rfl (.tmp 58) (.tmp 61) rfl rfl (wo.out.kH jh.out.2) rfl jh.out.1.reads (by have:=TB.out;have:=abR.out;rw[List.length_append,List.length_singleton];omega) (pt.out.trans jh.out.2).size ?_;intro aoQ ta aO aN cK;have y7:=hid (And.intro aO aN);clear aO aN cK))
     have uP:=hid (kg (pt.out.trans jh.out.2) (wo.out.kH jh.out.2) (Nat.le_refl _) y7.out.2);go_roundw
     case rel=>exact⟨i+1,by go_num,aD,uP.out,by rw[mZ.out,abS.out,zi.out];exact y7.out.1⟩
     case measure=>simp[intOf];omega
    ·obtain rfl:i=ew:=by omega
     have c6:¬((i:Int)<i):=by omega
     rw[List.take_of_length_le (by rw[Jl.out];exact Nat.le_refl _)]at da;have Wq:=Wp.kept ab;have NT:=Tw.out.trans ab;have FB:=S3.out wr ab;obtain⟨eZ,j_⟩:=FB.p;have bI:=hid (HMC.out b E6 A2 _ _ w wr _ _ Wq HN8.out HF8.out NT jt zl.out abT.out da);unfold Kf at bI;obtain⟨anh,sF,rfl⟩:=il da;generalize r5 m md=ans at*;generalize vC:ans.length=uo at*;clear Wp Wq da ab FB vC;go_wp2_with (go_at_call 47;refine bI.out.mono ?_;rintro e ta ⟨rfl,s0,I0,ns,Wr,Wa,WC⟩;have l0:=hid (And.intro Wr (And.intro Wa WC));clear ns Wr Wa WC)
     go_ret;exact⟨b,s0,I0,rfl,l0.out.1,l0.out.2.1.HW (fun x y=>(Iff.trans (Jq.out x y) (by
      unfold tQ;constructor
      ·rintro (h|⟨-,h⟩)
       ·exact .inl (.inr h)
       ·exact .inr h
      ·rintro ((h|h)|h)
       ·exact h.elim
       ·exact .inl h
       ·exact .inr ⟨HQ0.out,h⟩)).symm),l0.out.2.2.kept NT jt⟩
end Go.Proofs.YtobpgndkciofhaaGreatDoor
