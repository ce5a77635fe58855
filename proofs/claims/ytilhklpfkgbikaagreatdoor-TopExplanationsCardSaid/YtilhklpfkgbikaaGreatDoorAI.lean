import Derived.Test.YtilhklpfkgbikaaGreatDoorAG
import Derived.Test.YtilhklpfkgbikaaGreatDoorAH
set_option linter.all false
namespace Go.Proofs.YtilhklpfkgbikaaGreatDoor
open Go.RowKit Go.Proofs.Tryz
set_option maxRecDepth 100000
set_option maxHeartbeats 32000000
def r5.small{l:cO}(h:r5 l){s:cq}(aO:s∈l.sc):qw s.rs/\s.ds.length<=12:=by
 obtain⟨i,aD⟩:=mc aO;have H:=h.all i s aD;exact⟨aer H.rs H.d12,H.d12⟩
def r5.C0{l:cO}(h:r5 l){s:cq}(aO:s∈l.sc):qw (bl l s).rs/\(bl l s).ds.length<=12:=by
 by_cases ar:0<=s.ms
 .exact h.small ((h.NF.bl aO).2.1 ar)
 .have e:bl l s=j':=by unfold bl;rw[aw ar]
  rw[e];exact⟨⟨by simp[j'],λr aC=>by simp[j']at aC⟩,by simp[j']⟩
def aqu{ms:List gh}{c2:List sP}{sc d:J}{ins:List bC}{mem:List (List bC)}(h:(qW ms c2 sc d ins mem).2.2=0):mem.length<=1000:=by
 unfold qW at h;split at h
 .cases h
 .split at h
  .cases h
  .dsimp only at h;split at h
   .split at h
    .cases h
    .rename_i ad;unfold rG at ad;split at ad<;>simp only at ad<;>omega
   .rename_i ad;exact absurd h ad
noncomputable def eD(l:cO)(sc:J)(c:gl)(d:J):Lo:=if n' l sc c d=0 then mL cz l (l.sc[sc.toNat]?.getD j') c d else⟨v0,0,n' l sc c d,Ad l sc c d,-1,-1⟩
def ai9{l:cO}{s:cq}{c:gl}{d:J}{R:Lt}(aJ:qC cz l (bl l s) s c (gM s.ds s.rs d) (fv s (bl l s) d)=R)(h:R.c≠0):mL cz l s c d=⟨v0,0,R.c,R.m,R.d,R.r⟩:=by
 unfold mL;rw[aJ,aP h]
def aja{l:cO}{s:cq}{c:gl}{d:J}{R:Lt}(aJ:qC cz l (bl l s) s c (gM s.ds s.rs d) (fv s (bl l s) d)=R)(h:R.c=0):mL cz l s c d=⟨R.bY[d.toNat]?.getD v0,R.us[d.toNat]?.getD 0,0,0,0,0⟩/\R.bY.length=s.ds.length:=by
 unfold mL;rw[aJ,aw (λk=>k h)];refine⟨rfl,?_⟩;rw[<-aJ]at h⊢;unfold qC at h⊢;split at h
 .rename_i ab;exact absurd h ab
 .rename_i ab;rw[aw ab];simp only;unfold gL;rw[aew,iQ]
def FK{l:cO}{sc d:J}{c:gl}(h:n' l sc c d=0):lx l/\w6 l sc d/\(qW l.ms l.c2 sc c.d c.ins c.mem).2.2=0:=by
 by_cases ab:lx l
 .by_cases ad:w6 l sc d
  .exact⟨ab,ad,by rw[<-Ip ab ad];exact h⟩
  .rw[aaP ab ad]at h
   cases h
 .rw[aaO ab]at h
  cases h
def BW(R:Lo)(w:ag)(e:Ending)(w':ag):Prop:=∃a b f:J,e=bL (bj #[aF #[R.v.k,R.v.e,R.v.n],R.cf,aF #[R.c,a,b,f]])/\lV R.c R.m R.d R.r a b f/\Kept w w'
def BW.mk{R:Lo}{w w':ag}{x y z c cf m d r a b f:J}(h:R=⟨⟨x,y,z⟩,cf,c,m,d,r⟩)(ar:lV c m d r a b f)(ai:Kept w w'):BW R w (bL (bj #[aF #[x,y,z],cf,aF #[c,a,b,f]])) w':=by
 subst h;exact⟨a,b,f,rfl,ar,ai⟩
def F2(cm gX hn:ak)(l:cO)(sc d:J)(c:gl)(w:ag)(bE:h1 w cm l)(b6:ft w gX c.ins)(bN:kh w hn c.mem)(fB:c.ins.length<=9223372036854775807)(h3:Mon w):
  bg 6 #[cm,sc,aF #[c.d,gX,hn],d] w (BW (eD l sc c d) w):=by
 have cI:=I (λw1(h:Kept w w1)=>ah0 cm gX hn l sc d c w1 (bE.kept h) (b6.kept h) (bN.kept h) fB);have dB:=I bE;have dY:=I b6;have cB:=I bN;have agh:=I h3;obtain⟨dw,cM,cH,rfl,ar,ab,ad⟩:=bE;obtain⟨c5,eW,rfl,-⟩:=id ar;obtain⟨cV,cX,rfl,-⟩:=id ab;obtain⟨hM,fJ,rfl,-⟩:=id ad;obtain⟨eh,fR,rfl,-⟩:=id b6;obtain⟨ff,ih,rfl,-⟩:=id bN;unfold vW at cI;obtain⟨r4,Wz⟩:∃R,n' l sc c d=R:=⟨_,rfl⟩;rw[Wz]at cI;have zU:=I Wz;obtain⟨aub,I4⟩:∃R,Ad l sc c d=R:=⟨_,rfl⟩;rw[I4]at cI;have O7:=I I4;obtain⟨US,ja⟩:∃R,eD l sc c d=R:=⟨_,rfl⟩;rw[ja];have q7:=I ja;obtain⟨dt,ins,mem⟩:=c;dsimp only at*;generalize ot:l.sc.length=fO at*;have Bm:=I ot;generalize l.bs.length=dS at*;generalize l.tb.length=dd at*;generalize ins.length=cC at*;generalize mem.length=eE at*;clear ar ab ad b6 bN fB h3 Wz I4 ja ot;go_enter func6,ntmps6
 go_upto_region 1 with fail
 generalize aL:(((w.alloc _).alloc _).alloc _).alloc _=W at*;obtain⟨aV,fH,e7,ga,E7⟩:=Kept.h_ aL;clear aL;have dv:=I (λw1(h:Kept W w1)=>bb (fH.kept h) (bb (e7.kept h) (bb (ga.kept h) (E7.kept h))));have e8:=I aV;obtain⟨b4,gz⟩:=fH.p;obtain⟨dn,fq⟩:=e7.p;have asF:w.heap.size+3<W:=E7.lt;clear fH e7 ga E7 aV;go_upto_region 2 with (go_at_call 17;refine (cI _ e8).mono ?_;rintro aQ w1⟨a,b,f,rfl,jn,au⟩;have sL:=I jn;clear jn)
 generalize aL:w1.alloc _=V at*;obtain⟨hz,cP⟩:=Kept.aQ aL;clear aL;have fi:=au.trans hz;have rA:=au.size;clear hz;generalize w1.heap.size=g1 at*;obtain⟨bu,dW⟩:=cP.p;have hb:=(dv V fi).2.2.1;have PS:=(dv V fi).2.2.2;have jG:=I fi;clear b4 gz dn fq cP cI;by_cases aq:r4=0
 case neg=>
  have jv:(r4 !=0)=true:=by simpa using aq
  have cW:=I (show US=⟨⟨0,0,0⟩,0,r4,aub,-1,-1⟩from by
   rw[<-q7];unfold eD;rw[zU,O7,aw aq];rfl)
  have ct:=I aq;clear aq;obtain⟨ST,iq⟩:∃S:List kQ,S=[(2,w.heap.size+1+1,34,#[ah 0,ah 0,ah 0]),(4,w.heap.size+1+1+1,37,#[ah r4,ah a,ah b,ah f])]:=⟨_,rfl⟩;have fl:=I (show rb [(2,w.heap.size+1+1,34,#[(),(),()]),(4,w.heap.size+1+1+1,37,#[r4,a,b,f])]from by unfold rb;simp);have hN:=I (show∀s∈([(2,w.heap.size+1+1,34,#[(),(),()]),(4,w.heap.size+1+1+1,37,#[r4,a,b,f])]:List kQ),∃cs,aB V s.2.1 s.2.2.1 cs/\cs.size=s.2.2.2.size from by
   intro s aO;simp only[fM,nA,nd]at aO;rcases aO with rfl|rfl
   .exact⟨_,hb,rfl⟩
   .exact⟨_,PS,rfl⟩)
  have kC:=I (show∀s∈([(2,w.heap.size+1+1,34,#[(),(),()]),(4,w.heap.size+1+1+1,37,#[r4,a,b,f])]:List kQ),w.heap.size<=s.2.1/\w.heap.size+2<=s.2.1/\s.2.1<=w.heap.size+3 from by
   intro s aO;simp only[fM,nA,nd]at aO;rcases aO with rfl|rfl<;>simp only<;>omega)
  have h7:=I (λ(g o:aa)(v:ak)(al:g<w+2\/w.heap.size+3<g)(av:g<V)(aq:aU V (g,o)=some v)=>fb.cell (W0:=V) (n:=5) (S:=[(2,w.heap.size+1+1,34,#[(),(),()]),(4,w.heap.size+1+1+1,37,#[r4,a,b,f])]) (b:=g) (o:=o) (v:=v) (λs aO=>by have:=(kC s aO).2;omega) av aq);rw[<-iq]at fl hN kC h7;have NE:Nonempty (fb V 5 ST):=fb.ne hN;go_upto_region 3 with fail
  have bX:=h7.out g1 0 _ (by omega) dW (bu 0);have bQ:=h7.out g1 1 _ (by omega) dW (bu 1);have cx:=h7.out g1 2 _ (by omega) dW (bu 2);have hx:=h7.out g1 3 _ (by omega) dW (bu 3);refine C8 (C:=h9 V 5 ST) (by kernel_rfl) (by kernel_rfl) (by kernel_rfl) (λ_ _ h=>h.zg) (h9.start hN) ?_;refine p8 [_,_] [_,_,_] _ _ rfl (by subst iq;simp) ?_
  repeat (go_big_quiet_step (exact rfl))
  refine f' ?_;refine rF (g:=w.heap.size+1+1) (T:=34) (cs:=[ah 0,ah 0,ah 0]) (by subst iq;simp) (by subst iq;exact fl.apart _ (by simp)) rfl rfl rfl rfl rfl (by kernel_rfl) rfl ?_;refine p8 [_] [_] _ _ rfl (by subst iq;simp) ?_
  repeat (go_big_quiet_step (exact rfl))
  refine f' ?_;refine rF (g:=w.heap.size+1+1+1) (T:=37) (cs:=[ah r4,a,b,f]) (by subst iq;simp) (by subst iq;exact fl.apart _ (by simp)) rfl rfl rfl rfl rfl (by kernel_rfl) rfl ?_;refine CJ ?_;intro DA mb mQ h2;subst iq;have qX:=h2.new mQ (s:=(2,_,_,_)) (by simp;exact⟨rfl,rfl,rfl⟩) (by simp only;omega);have zz:=h2.new mQ (s:=(4,_,_,_)) (by simp;exact⟨rfl,rfl,rfl⟩) (by simp only;omega);have k':=I (h2.kept (e8.trans jG) (λs aO=>(kC s aO).1));go_wp2_with fail
  have sv:=qX.cell;have x1:=zz.cell;exact bI (v:=bj #[aF #[(),(),()],(),aF #[r4,a,b,f]]) (by simp[results,results6,go_sem,sv,x1]) rfl (BW.mk cW sL k')
 subst aq;obtain⟨h',⟨⟨qP,akX⟩,kF,hf⟩,p5⟩:=FK zU;have gp:=aqu p5;obtain⟨k,rfl⟩:=A_ qP;rw[Bm]at akX;have fu:k<l.sc.length:=by rw[Bm];omega
 have aD:l.sc[k]?=some (l.sc[k]'fu):=bn fu;rw[c7,aD,b9]at hf;have KB:=I (show US=mL cz l (l.sc[k]'fu) ⟨dt,ins,mem⟩ d from by
  rw[<-q7];unfold eD;rw[zU,aP rfl,c7,aD,b9])
 generalize l.sc[k]'fu=s at*;have Ni:=fe aD;obtain⟨bd,a8⟩:=h'.sc.small Ni;obtain⟨dI,dk⟩:=h'.sc.C0 Ni;have Wr:=h'.sc.NF;obtain⟨ud,-,JP⟩:=Wr.bl Ni;have SD:=(Wr.sc s Ni).ok.ac;have tD:=I (λw1(h:Kept w w1)=>amX _ l k s w1 (dB.kept h) aD (h'.sc.ms aD) (λt cr=>by have:=(h'.sc.small cr).2;omega));unfold Sj at tD;have mg:=I (λ(w0 ws:ag)(P D M:aa)(b7 dy cD kx km jN:ak)(gn:gu)(ax:Kept w0 ws)(fT:Pv w0 P D M b7 dy cD kx km jN s (bl l s))(cd:H6 P D M gn b7 dy cD kx km jN s (bl l s) (List.replicate s.ds.length false) (List.replicate (bl l s).ds.length false) ws)=>
  agE w0 ws P D M b7 dy cD kx km jN gn s (bl l s) (List.replicate s.ds.length false) (List.replicate (bl l s).ds.length false) d ax cd.1 fT.s fT.m cd.2.1 cd.2.2 (by rw[iQ];exact⟨kF,hf⟩) (iQ ..) (iQ ..) fT.NZ fT.pm fT.auq fT.wd fT.auU bd (by omega) dI (by omega) (JP d ⟨kF,hf⟩))
 have h0:=I (λ(w0 ch:ag)(P D M:aa)(b7 dy cD kx km jN:ak)(gn:gu)(h:Kept w ch)(ar:Kept w0 ch)(fT:Pv w0 P D M b7 dy cD kx km jN s (bl l s))(cd:H6 P D M gn b7 dy cD kx km jN s (bl l s) (gM s.ds.length s.rs d) (fv s (bl l s) d) ch)=>
  ai5 _ _ _ l (k:J) ⟨dt,ins,mem⟩ P D M gn b7 dy cD kx km jN s (bl l s) (gM s.ds.length s.rs d) (fv s (bl l s) d) w0 ch ar (dB.kept h) (dY.kept h) (cB.kept h) fT cd bd (by omega) dI (by omega) (ZG _ _ _) (adw _ _ _) SD ud.ac (agh.kept h) gp)
 unfold Qx at h0;obtain⟨⟨hv,eZ,cF,zy,oB,lu⟩,DZ⟩:∃R,qC cz l (bl l s) s ⟨dt,ins,mem⟩ (gM s.ds.length s.rs d) (fv s (bl l s) d)=R:=⟨_,rfl⟩;rw[DZ]at h0;dsimp only at h0;have af0:=I (λ(h:cF≠0)=>ai9 (R:=⟨hv,eZ,cF,zy,oB,lu⟩) DZ h);have af1:=I (λ(h:cF=0)=>aja (R:=⟨hv,eZ,cF,zy,oB,lu⟩) DZ h);have lH:=ZG s.ds.length s.rs d;have Cm:=adw s (bl l s) d;have j5:=I (λ(w0 ws ch:ag)(P D M:aa)(b7 dy cD kx km jN:ak)(gn:gu)(cd:H6 P D M gn b7 dy cD kx km jN s (bl l s) (List.replicate s.ds.length false) (List.replicate (bl l s).ds.length false) ws)(h:Yz P D M #[s.aM,s.ms,b7,dy,cD,.string (bl l s).aM,ah (bl l s).ms,kx,km,jN,.slice (some (D,0)) (List.replicate s.ds.length false).length (List.replicate s.ds.length false).length,.slice gn (List.replicate (bl l s).ds.length false).length (List.replicate (bl l s).ds.length false).length]
   (oV (ma s.ds.length s.rs d) ((List.replicate s.ds.length false).set d.toNat true)) ((j9 s.ds.length s.rs d).foldl (sR (bl l s).ds.length (bl l s).rs) (List.replicate (bl l s).ds.length false)) w0 (bL (bj #[])) ch)=>(show H6 P D M gn b7 dy cD kx km jN s (bl l s) (gM s.ds.length s.rs d) (fv s (bl l s) d) ch from by
   obtain⟨-,-,g1,g2,g3⟩:=h;refine⟨?_,g2,λhp=>⟨(cd.2.2 (by rw[iQ];rw[Cm]at hp;exact hp)).1,g3 hp⟩⟩;rw[iQ,iQ]at g1;rw[lH,Cm];exact g1))
 have cU:=I (bb kF hf);have lF:(k:J)<fO:=by omega
 generalize bl l s=m at*;clear h' p5 gp aD Ni bd a8 dI dk ud JP SD Wr DZ lH Cm qP fu kF hf;have b4:=(dv V fi).1.cell;have gz:=(dv V fi).1.lt;go_upto_region 5 with (go_at_call 18;refine (tD _ (e8.trans fi)).mono ?_;rintro a_ w2⟨P,D,M,gn,b7,dy,cD,kx,km,jN,rfl,bt,fT,cd⟩;have n7:=I fT;have b3:=I cd;clear fT cd)
 have hk:=I (fi.trans bt);have Hk2:=I bt;clear b4 gz bu dW tD;go_upto_region 6 with (go_at_call 19;refine (mg V w2 P D M b7 dy cD kx km jN gn Hk2 n7 b3).mono ?_;rintro cv ch hp;obtain rfl:cv=bL (bj #[]):=hp.1;have dU:=I hp;clear hp)
 have Hk3:=I (dU.2.1);have gO:=I (fi.trans Hk3);have b4:=(dv ch gO).1.cell;have gz:=(dv ch gO).1.lt;have dn:=(dv ch gO).2.1.cell;have fq:=(dv ch gO).2.1.lt;go_upto_region 7 with (go_at_call 20;refine (h0 V ch P D M b7 dy cD kx km jN gn (e8.trans gO) Hk3 n7 (j5 V w2 ch P D M b7 dy cD kx km jN gn b3 dU)).mono ?_;rintro h_ eK⟨u0,u1,u2,bX,bQ,cx,hx,hK,pE,fI,j7,nm,rfl,ck,hv4,wq,hl4,⟨⟨zG,kI,dX,rfl⟩,⟨dm,e9,dM,rfl⟩,⟨dx,eC,dQ,rfl⟩⟩,⟨z,rfl⟩,⟨bh,j0,hh,rfl⟩,⟨bm,mY,iC,rfl⟩,⟨cP,kJ,kY,rfl⟩,⟨fH,wA,sr,rfl⟩,⟨hq,auI,EE,rfl⟩⟩;have HV:=I hv4;have HZ4:=I wq;have n4:=I hl4;clear hv4 wq hl4)
 generalize aL:((eK.alloc _).alloc _).alloc _=X at*;obtain⟨du,yw,-,UP⟩:=Kept.cv aL;clear aL;have wT:=I ((e8.trans gO).trans (ck.trans du));have oj:=dv.out _ (gO.trans (ck.trans du));have hb:=oj.2.2.1;have PS:=oj.2.2.2;have XA:w.heap.size+3<eK:=by have:=(gO.trans ck).size;omega
 have iS:=I du;clear oj b4 gz dn fq mg h0 j5;generalize eK.heap.size=aR at*;obtain⟨aQ,m1⟩:=yw.p;obtain⟨bu,dW⟩:=UP.p;by_cases aq:cF=0
 case neg=>
  have jv:(cF !=0)=true:=by simpa using aq
  have cW:=I (show US=⟨⟨0,0,0⟩,0,cF,zy,oB,lu⟩from by
   rw[KB];exact af0 aq)
  have ct:=I aq;clear aq;obtain⟨ST,iq⟩:∃S:List kQ,S=[(2,w.heap.size+1+1,34,#[ah 0,ah 0,ah 0]),(4,w.heap.size+1+1+1,37,#[ah cF,ah fI,ah j7,ah nm])]:=⟨_,rfl⟩;have fl:=I (show rb [(2,w.heap.size+1+1,34,#[(),(),()]),(4,w.heap.size+1+1+1,37,#[cF,fI,j7,nm])]from by unfold rb;simp);have hN:=I (show∀s∈([(2,w.heap.size+1+1,34,#[(),(),()]),(4,w.heap.size+1+1+1,37,#[cF,fI,j7,nm])]:List kQ),∃cs,aB X s.2.1 s.2.2.1 cs/\cs.size=s.2.2.2.size from by
   intro s aO;simp only[fM,nA,nd]at aO;rcases aO with rfl|rfl
   .exact⟨_,hb,rfl⟩
   .exact⟨_,PS,rfl⟩)
  have kC:=I (show∀s∈([(2,w.heap.size+1+1,34,#[(),(),()]),(4,w.heap.size+1+1+1,37,#[cF,fI,j7,nm])]:List kQ),w.heap.size<=s.2.1/\w.heap.size+2<=s.2.1/\s.2.1<=w.heap.size+3 from by
   intro s aO;simp only[fM,nA,nd]at aO;rcases aO with rfl|rfl<;>simp only<;>omega)
  have h7:=I (λ(g o:aa)(v:ak)(al:g<w+2\/w.heap.size+3<g)(av:g<X)(aq:aU X (g,o)=some v)=>fb.cell (W0:=X) (n:=5) (S:=[(2,w.heap.size+1+1,34,#[(),(),()]),(4,w.heap.size+1+1+1,37,#[cF,fI,j7,nm])]) (b:=g) (o:=o) (v:=v) (λs aO=>by have:=(kC s aO).2;omega) av aq);rw[<-iq]at fl hN kC h7;have NE:Nonempty (fb X 5 ST):=fb.ne hN;go_upto_region 8 with fail
  have bX:=h7.out (aR+1+1) 0 _ (by omega) dW (bu 0);have bQ:=h7.out (aR+1+1) 1 _ (by omega) dW (bu 1);have cx:=h7.out (aR+1+1) 2 _ (by omega) dW (bu 2);have hx:=h7.out (aR+1+1) 3 _ (by omega) dW (bu 3);refine C8 (C:=h9 X 5 ST) (by kernel_rfl) (by kernel_rfl) (by kernel_rfl) (λ_ _ h=>h.zg) (h9.start hN) ?_;refine p8 [_,_] [_,_,_] _ _ rfl (by subst iq;simp) ?_
  repeat (go_big_quiet_step (exact rfl))
  refine f' ?_;refine rF (g:=w.heap.size+1+1) (T:=34) (cs:=[ah 0,ah 0,ah 0]) (by subst iq;simp) (by subst iq;exact fl.apart _ (by simp)) rfl rfl rfl rfl rfl (by kernel_rfl) rfl ?_;refine p8 [_] [_] _ _ rfl (by subst iq;simp) ?_
  repeat (go_big_quiet_step (exact rfl))
  refine f' ?_;refine rF (g:=w.heap.size+1+1+1) (T:=37) (cs:=[ah cF,fI,j7,nm]) (by subst iq;simp) (by subst iq;exact fl.apart _ (by simp)) rfl rfl rfl rfl rfl (by kernel_rfl) rfl ?_;refine CJ ?_;intro DA mb mQ h2;subst iq;have qX:=h2.new mQ (s:=(2,_,_,_)) (by simp;exact⟨rfl,rfl,rfl⟩) (by simp only;omega);have zz:=h2.new mQ (s:=(4,_,_,_)) (by simp;exact⟨rfl,rfl,rfl⟩) (by simp only;omega);have k':=I (h2.kept wT (λs aO=>(kC s aO).1));go_wp2_with fail
  have sv:=qX.cell;have x1:=zz.cell;exact bI (v:=bj #[aF #[(),(),()],(),aF #[cF,fI,j7,nm]]) (by simp[results,results6,go_sem,sv,x1]) rfl (BW.mk cW HZ4 k')
 subst aq;obtain⟨aK,GB,akT⟩:=HV.out rfl;obtain⟨p5,hlen⟩:=af1.out rfl;rw[p5]at KB;obtain⟨g,rfl⟩:=A_ cU.1;have s5:g<hv.length:=by rw[hlen];have:=cU.2;omega
 have RO:hv[g]?=some (hv[g]'s5):=bn s5;rw[c7,RO,b9]at KB;have jl:g<eZ.length:=by rw[akT];have:=cU.2;omega
 have hrg:eZ[g]?=some (eZ[g]'jl):=bn jl;rw[hrg,b9]at KB;generalize hv[g]'s5=x at*;generalize eZ[g]'jl=auR at*;obtain⟨ep,fj,iO⟩:=x;obtain⟨A,cap,Eh,CA⟩:=aK;simp only[i_]at Eh;obtain⟨rfl,rfl,rfl⟩:=Eh;obtain⟨pS,o,rfl,af,Q5⟩:=CA (by omega);have t0:=Q5 g _ RO 0 _ rfl;have t1:=Q5 g _ RO 1 _ rfl;have t2:=Q5 g _ RO 2 _ rfl;obtain⟨pH,rj,pt,iL⟩:=GB;simp only[i_]at pt;obtain⟨rfl,rfl,rfl⟩:=pt;obtain⟨bW,mY,rfl,hd,y2⟩:=iL (by omega);have u0:=y2 g _ hrg 0 _ rfl;dsimp only at t0 t1 t2 u0;rw[lT]at t0;rw[lT,jD]at u0;obtain⟨uT,oq⟩:=n4.out rfl;have fU:=uT pS rfl;have qF:=oq bW rfl;have hw3:w.heap.size+3<ch:=by have:=gO.size;omega
 have hzz:=HZ4.1 rfl;obtain⟨rfl,rfl,rfl⟩:=hzz;replace t0:=iS.aI af t0;replace t1:=iS.aI af t1;replace t2:=iS.aI af t2;replace u0:=iS.aI hd u0;have Q2:=bG af iS.size;have ajU:=bG hd iS.size;have kG:(g:J)<hv.length:=by omega
 have arZ:(g:J)<eZ.length:=by omega
 have cW:=I KB;generalize hv.length=lL at*;generalize eZ.length=nrl at*;clear Q5 y2 CA iL uT oq;obtain⟨ST,iq⟩:∃S:List kQ,S=[(11,w.heap.size+1+1,34,#[ah ep,ah fj,ah iO]),(13,w.heap.size+1+1+1,37,#[ah 0,ah 0,ah 0,ah 0])]:=⟨_,rfl⟩;have fl:=I (show rb [(11,w.heap.size+1+1,34,#[ep,fj,iO]),(13,w.heap.size+1+1+1,37,#[(),(),(),()])]from by unfold rb;simp);have hN:=I (show∀s∈([(11,w.heap.size+1+1,34,#[ep,fj,iO]),(13,w.heap.size+1+1+1,37,#[(),(),(),()])]:List kQ),∃cs,aB X s.2.1 s.2.2.1 cs/\cs.size=s.2.2.2.size from by
  intro s aO;simp only[fM,nA,nd]at aO;rcases aO with rfl|rfl
  .exact⟨_,hb,rfl⟩
  .exact⟨_,PS,rfl⟩)
 have kC:=I (show∀s∈([(11,w.heap.size+1+1,34,#[ep,fj,iO]),(13,w.heap.size+1+1+1,37,#[(),(),(),()])]:List kQ),w.heap.size<=s.2.1/\w.heap.size+2<=s.2.1/\s.2.1<=w.heap.size+3 from by
  intro s aO;simp only[fM,nA,nd]at aO;rcases aO with rfl|rfl<;>simp only<;>omega)
 have h7:=I (λ(g o:aa)(v:ak)(al:g<w+2\/w.heap.size+3<g)(av:g<X)(aq:aU X (g,o)=some v)=>fb.cell (W0:=X) (n:=14) (S:=[(11,w.heap.size+1+1,34,#[ep,fj,iO]),(13,w.heap.size+1+1+1,37,#[(),(),(),()])]) (b:=g) (o:=o) (v:=v) (λs aO=>by have:=(kC s aO).2;omega) av aq);rw[<-iq]at fl hN kC h7;have NE:Nonempty (fb X 14 ST):=fb.ne hN;go_upto_region 9 with fail
 have eU:=h7.out aR 0 _ (by omega) m1 (aQ 0);have dr:=h7.out aR 1 _ (by omega) m1 (aQ 1);have eV:=h7.out pS _ _ (by omega) Q2 t0;have jP:=h7.out pS _ _ (by omega) Q2 t1;have pF:=h7.out pS _ _ (by omega) Q2 t2;have vz:=h7.out bW _ _ (by omega) ajU u0;refine C8 (C:=h9 X 14 ST) (by kernel_rfl) (by kernel_rfl) (by kernel_rfl) (λ_ _ h=>h.zg) (h9.start hN) ?_;refine p8 [_,_,_,_,_,_,_,_,_,_,_] [_,_,_] _ _ rfl (by subst iq;simp) ?_
 repeat (go_big_quiet_step (exact rfl))
 refine f' ?_;refine rF (g:=w.heap.size+1+1) (T:=34) (cs:=[ah ep,fj,iO]) (by subst iq;simp) (by subst iq;exact fl.apart _ (by simp)) rfl rfl rfl rfl rfl (by kernel_rfl) rfl ?_;refine p8 [_] [_] _ _ rfl (by subst iq;simp) ?_
 repeat (go_big_quiet_step (exact rfl))
 refine f' ?_;refine rF (g:=w.heap.size+1+1+1) (T:=37) (cs:=[ah 0,ah 0,ah 0,ah 0]) (by subst iq;simp) (by subst iq;exact fl.apart _ (by simp)) rfl rfl rfl rfl rfl (by kernel_rfl) rfl ?_;refine CJ ?_;intro DA mb mQ h2;subst iq;have qX:=h2.new mQ (s:=(11,_,_,_)) (by simp;exact⟨rfl,rfl,rfl⟩) (by simp only;omega);have zz:=h2.new mQ (s:=(13,_,_,_)) (by simp;exact⟨rfl,rfl,rfl⟩) (by simp only;omega);have k':=I (h2.kept wT (λs aO=>(kC s aO).1));go_wp2_with fail
 have sv:=qX.cell;have x1:=zz.cell;exact bI (v:=bj #[aF #[ep,fj,iO],auR,aF #[(),(),(),()]]) (by simp[results,results6,go_sem,sv,x1]) rfl (BW.mk cW.out.out lV.ok k')
def abf{ms:List gh}{bA:List dh}{bY:List bC}(h:(lZ ms bA bY).2=0):bY.length=bA.length:=by
 unfold lZ at h;split at h
 .cases h
 .split at h
  .cases h
  .omega
theorem abe{ms:List gh}{bA:List dh}:∀(l:List (List bC))(m:aa),(yP ms bA m l).2.2=0->∀bY∈l,(lZ ms bA bY).2=0
 |[],_,_,_,h=>by cases h
 |v::l,m,h,bY,aK=>by
  rw[yP]at h;split at h
  .rename_i ab;rcases fM.1 aK with rfl|aK
   .exact ab
   .exact abe l (m+1) h bY aK
  .rename_i ab;exact absurd h ab
def aqw{ms:List gh}{c2:List sP}{sc d:J}{ins:List bC}{mem:List (List bC)}(h:(qW ms c2 sc d ins mem).2.2=0):
  (0<=sc/\sc<c2.length)/\(0<=d/\d<=109572)/\(lZ ms (c2[sc.toNat]?.getD ⟨0,[]⟩).ins ins).2=0/\mem.length<=(rG c2 (c2[sc.toNat]?.getD ⟨0,[]⟩)).2/\∀bY∈mem,(lZ ms (rG c2 (c2[sc.toNat]?.getD ⟨0,[]⟩)).1 bY).2=0:=by
 unfold qW at h;split at h
 .cases h
 rename_i ab;split at h
 .cases h
 rename_i ad;dsimp only at h;split at h
 .rename_i ao;split at h
  .cases h
  .rename_i aR;exact⟨by omega,by omega,ao,by omega,abe _ _ h⟩
 .rename_i ao;exact absurd h ao
def aqv{ms:List gh}{c2:List sP}{sc d:J}{ins:List bC}(ab:0<=sc/\sc<c2.length)(ad:0<=d/\d<=109572)(ao:(lZ ms (c2[sc.toNat]?.getD ⟨0,[]⟩).ins ins).2=0):(qW ms c2 sc d ins []).2.2=0:=by
 unfold qW;rw[aw (by omega),aw (by omega)];dsimp only;rw[aP ao,aw (by simp)];rfl
section
variable {l:cO} {i:aa} {s:cq} {c:gl} {d0:J}
def Y'{j:aa}{x:cq}(ay:l.sc[j]?=some x):l.c2[j]?=some ⟨x.ms,x.ins.map λf=>⟨f.k,f.e⟩⟩:=by
 unfold cO.c2;rw[hS,ay];rfl
def PR(aD:l.sc[i]?=some s)(h:n' l (i:J) c d0=0):lx l/\(0<=d0/\d0<s.ds.length)/\c.ins.length=s.ins.length/\(c.mem≠[]->0<=s.ms)/\c.mem.length<=8/\(∀bY∈c.mem,bY.length=(bl l s).ins.length)/\
  ∀(j:aa)(f:J),j<c.mem.length->0<=f->f<(bl l s).ds.length->n' l s.ms (th c (j:J)) f=0:=by
 obtain⟨ab,⟨ad,ao⟩,aR⟩:=FK h;rw[c7,aD,b9]at ao;obtain⟨v1,v2,v3,v4,v5⟩:=aqw aR;rw[c7,Y' aD,b9]at v3 v4 v5;have hlen:l.c2.length=l.sc.length:=by unfold cO.c2;rw[er]
 have jW:c.mem≠[]->0<=s.ms/\l.sc[s.ms.toNat]?=some (bl l s)/\rG l.c2 ⟨s.ms,s.ins.map λf=>⟨f.k,f.e⟩⟩=((bl l s).ins.map (λf=>⟨f.k,f.e⟩),8):=λbU=>by
  have Rx:0<c.mem.length:=List.length_pos_iff.2 bU;unfold rG at v4⊢;by_cases af:s.ms<0\/(l.c2:J)<=s.ms
  .exfalso;rw[aP af]at v4;exact bU (by simpa using v4)
  .have al:=bn (l:=l.sc) (i:=s.ms.toNat) (by omega);have he:bl l s=l.sc[s.ms.toNat]'(by omega):=by
    unfold bl;rw[aP (by omega),al,b9]
   refine⟨by omega,by rw[he];exact al,?_⟩;rw[aw af,Y' al,b9,he]
 refine⟨ab,ao,?_,λbU=>(jW bU).1,?_,λbY lJ=> ?_,λj f ay f0 f1=> ?_⟩
 .have:=abf v3;rw[er]at this;exact this
 .by_cases bU:c.mem=[]
  .rw[bU];simp
  .rw[(jW bU).2.2]at v4;exact v4
 .have bU:c.mem≠[]:=λe=>by rw[e]at lJ;cases lJ
  have:=v5 bY lJ;rw[(jW bU).2.2]at this;have:=abf this;rw[er]at this;exact this
 .have bU:c.mem≠[]:=λe=>by rw[e]at ay;simp at ay
  obtain⟨m1,m2,m3⟩:=jW bU;have nM:s.ms<l.sc.length:=by
   have:=(b2 m2).1;omega
  rw[Ip ab ⟨⟨m1,nM⟩,by rw[m2,b9];exact⟨f0,f1⟩⟩];have pk:=bn ay;have aK:=v5 _ (fe pk);rw[m3]at aK;refine aqv ⟨m1,by omega⟩ v2 ?_;rw[Y' m2,b9];unfold th;rw[c7,pk,b9];exact aK
def ahh(own gE:aW)(aD:l.sc[i]?=some s)(h:n' l (i:J) c d0=0):n' (j_ l i s own gE) (i:J) c d0=0:=by
 obtain⟨ab,⟨ad,ao⟩,aR⟩:=FK h;have GD:=Zc (l:=l) own gE aD;rw[c7,aD,b9]at ao;obtain⟨x,bQ,cx⟩:=GD.at_ i s aD;have ak1:(j_ l i s own gE).c2=l.c2:=by
  unfold cO.c2;apply A8;intro j;rw[hS,hS]
  cases al:l.sc[j]? with
  |none=>
   have:(j_ l i s own gE).sc[j]?=none:=by
    rw[E1,GD.len];exact E1.1 al
   rw[this]
  |some y=>
   obtain⟨x0,dr,eV⟩:=GD.at_ _ y al;rw[dr,qi,qi,eV.ms,eV.ins]
 have sh:(j_ l i s own gE).ms=l.ms:=rfl;rw[Ip (GD.ok ab) ⟨⟨by omega,by rw[GD.len];exact ad.2⟩,by rw[c7,bQ,b9,cx.ds];exact ao⟩,ak1,sh];exact aR
def L6{sc d:J}(h:n' l sc c d=0):eD l sc c d=mL cz l (l.sc[sc.toNat]?.getD j') c d:=by unfold eD;rw[aP h]
def IK{sc d:J}(h:(eD l sc c d).c=0):n' l sc c d=0:=by
 unfold eD at h;split at h
 .assumption
 .exact h
def afk(aD:l.sc[i]?=some s){d:J}(h:n' l (i:J) c d=0):eD l (i:J) c d=iE l s c (-1) d:=by
 rw[L6 h,c7,aD,b9];unfold iE;rw[aP (by decide)]
def ahg(aD:l.sc[i]?=some s){d:J}(h:n' l (i:J) c d0=0)(aE:0<=d/\d<s.ds.length):n' l (i:J) c d=0:=by
 obtain⟨ab,⟨ad,ao⟩,aR⟩:=FK h;rw[Ip ab ⟨ad,by rw[c7,aD,b9];exact aE⟩];exact aR
def kd.of(aD:l.sc[i]?=some s)(h:(eD l (i:J) c d0).c=0):kd l i s c d0:=by
 have bD:=IK h;obtain⟨dM,dQ,-⟩:=PR aD bD;refine⟨dM,aD,dQ,?_⟩;rw[L6 bD,c7,aD,b9]at h;exact h
def anR(aD:l.sc[i]?=some s)(h:(eD l (i:J) c d0).c=0){ns:List cl}(aH:Kq l s c d0 ns){own gE:aW}(aA:Py ns own)(hm:Pt ns gE):
  (eD (j_ l i s own gE) (i:J) c d0).c=0/\(eD (j_ l i s own gE) (i:J) c d0).v=(eD l (i:J) c d0).v:=by
 have a1:=kd.of aD h;have bD:=IK h;obtain⟨ab,ad⟩:=a1.same aH aA hm;have fB:=(b2 aD).1;have Q0:(j_ l i s own gE).sc[i]?=some (mD s (ht s own)):=by
  unfold j_;simp only;split
  .rename_i aT;rw[wK (by omega),uk fB]
  .rw[uk fB]
 rw[L6 (ahh own gE aD bD),c7,Q0,b9,afk aD bD];exact⟨ab,ad⟩
end
def agC(l:List (J×J))(o:Option (J×J)):(hl l o).length<=l.length+1:=by
 cases o with
 |none=>show l.length<=_;omega
 |some r=>
  show (if r∈l then l else l++[r]).length<=_;split
  .omega
  .simp
theorem L9:∀(xs:List cw)(l:List (J×J)),(xs.foldl mo l).length<=l.length+xs.length
 |[],l=>by simp
 |x::xs,l=>by
  rw[x6,hi];have ab:=L9 xs (mo l x);have ad:=agC l (p' x);unfold mo at ab⊢;omega
def aaE(l:List (J×J))(r:br):(tL l r).length<=l.length+(r.g.length+r.v.length):=by
 unfold tL;have ab:=L9 r.v (r.g.foldl mo l);have ad:=L9 r.g l;omega
theorem U2{α:Type}{g:α->br}{k:aa}(h:∀j,(g j).g.length+(g j).v.length<=k):∀(vc:List α)(l:List (J×J)),(vc.foldl (λacc j=>tL acc (g j)) l).length<=l.length+k*vc.length
 |[],l=>by simp
 |j::vc,l=>by
  rw[x6,hi,Nat.mul_add,jD];have ab:=U2 h vc (tL l (g j));have ad:=aaE l (g j);have ao:=h j;omega
theorem abw{C:q2}(h:C.aM<=8):∀l:List (J×J),tR C l<=8*l.length
 |[]=>by simp[tR]
 |r::l=>by
  have ab:=abw h l;unfold tR at ab⊢;rw[zE,Dd,hi];have ad:yQ C r<=8:=by unfold yQ;split<;>omega
  omega
def N9{rs:List br}(h:qw rs)(k:aa):(rs[k]?.getD jz).g.length+(rs[k]?.getD jz).v.length<=96:=by
 cases al:rs[k]? with
 |none=>simp[jz]
 |some r=>
  have:=h.2 r (fe al);rw[b9];omega
def aiJ{l:cO}{s:cq}{c:gl}(ab:qw s.rs)(ad:qw (bl l s).rs)(ao:c.mem.length<=8)(m d:J):(jy l s c m d).length<=768/\tR (yR l s c) (jy l s c m d)<=6144:=by
 have av:(jy l s c m d).length<=768:=by
  unfold jy;split
  .have:=aaE [] (s.rs[(iE l s c m d).cf.toNat]?.getD jz);have:=N9 ab (iE l s c m d).cf.toNat;simp at*;omega
  .have:=U2 (g:=λj:aa=>(bl l s).rs[(iE l s c (j:J) d).cf.toNat]?.getD jz) (k:=96) (λj=>N9 ad _) (List.range c.mem) [];rw[vG]at this;simp only[sB]at this;omega
 have:=abw (C:=yR l s c) ao (jy l s c m d);exact⟨av,by omega⟩
def qe(n:cl):dN:=[ah n.k,n.dp,n.m,n.cQ,n.cf,n.v.k,n.v.e,n.v.n]
def ZJ(n:cl):(qe n).length=8:=rfl
def J5(v:bC):ak:=aF #[v.k,v.e,v.n]
def DS(v:bC)(r:J):ak:=aF #[v.k,v.e,v.n,r]
structure OL where
 E:ak
 T:ak
 S:ak
 sc:J
 dt:J
 mj:ak
 M:ak
def oI(b:OL)(M:aa)(v:ak):ho:=#[v,b.E,b.T,b.S,b.sc,b.dt,b.mj,b.M,.map (some M),(),(),(),()]
def Ff(e:J->J->ak)(t M:aa)(hI:List (J×J))(w:ag):Prop:=
 ∃f,lY t M hI f w/\∀m d,f (gZ m d)=if (m,d)∈hI then some (e m d)else none
def Ff.kept{e:J->J->ak}{t M:aa}{hI:List (J×J)}{w w':ag}(h:Ff e t M hI w)(ai:w'.heap[M]?=w.heap[M]?):Ff e t M hI w':=by
 obtain⟨f,ab,ad⟩:=h;exact⟨f,ab.block ai,ad⟩
structure lU(P M:aa)(v:ak)(w:ag)(v':ak)(w':ag):Prop where
 os:w'.os=w.os
 tape:w'.tape=w.tape
 output:w'.output=w.output
 size:w<=w'.heap.size
 block:∀i,i<w.heap.size->i≠P->i≠M->v.ownBlock≠some i->w'.heap[i]?=w.heap[i]?
 own:v'.ownBlock=v.ownBlock\/∀g,v'.ownBlock=some g->w.heap.size<=g
section
variable {P M:aa} {v v1 v2:ak} {w w1 w2:ag}
def lU.refl(P M:aa)(v:ak)(w:ag):lU P M v w v w:=⟨rfl,rfl,rfl,bB _,λ_ _ _ _ _=>rfl,.inl rfl⟩
def lU.ky(ai:Kept w w1):lU P M v w v w1:=⟨ai.os,ai.tape,ai.output,ai.size,λi aD _ _ _=>ai.block i aD,.inl rfl⟩
def lU.trans(h:lU P M v w v1 w1)(k:lU P M v1 w1 v2 w2):lU P M v w v2 w2:=by
 refine⟨k.os.trans h.os,k.tape.trans h.tape,k.output.trans h.output,fN h.size k.size,λi aD ab ad ao=> ?_,?_⟩
 .refine (k.block i (bG aD h.size) ab ad (λe=> ?_)).trans (h.block i aD ab ad ao);rcases h.own with aR|aR
  .exact ao (aR▸e)
  .have:=aR i e;omega
 .rcases k.own with ck|ck
  .rw[ck];exact h.own
  .exact .inr λg al=>fN h.size (ck g al)
def lU.kept(h:lU P M v w v1 w1)(k:Kept w1 w2):lU P M v w v1 w2:=h.trans (.ky k)
def lU.stays(h:lU P M v w v1 w1){i:aa}(aD:i<w)(ab:i≠P)(ad:i≠M)(ao:v.ownBlock≠some i):w1.heap[i]?=w.heap[i]?:=h.block i aD ab ad ao
end
structure fD where
 w0:ag
 l:cO
 i:aa
 s:cq
 c:gl
 d0:J
 b:OL
 P:aa
 M:aa
 B:aa
noncomputable def fD.fd(X:fD)(m d:J):ak:=DS (iE X.l X.s X.c m d).v (iE X.l X.s X.c m d).cf
def fD.U(X:fD):List (J×J):=zv X.l X.s X.c
noncomputable def fD.C(X:fD):q2:=yR X.l X.s X.c
def fD.G(X:fD):J->J->Prop:=Hy X.l X.s X.c X.d0
structure gv(X:fD):Prop where
 at_:X.l.sc[X.i]?=some X.s
 arg:n' X.l (X.i:J) X.c X.d0=0
 dw:(eD X.l (X.i:J) X.c X.d0).c=0
 law:h1 X.w0 (aF #[X.b.E,X.b.T,X.b.S]) X.l
 ins:ft X.w0 X.b.mj X.c.ins
 mem:kh X.w0 X.b.M X.c.mem
 auv:X.c.ins.length<=9223372036854775807
 mon:Mon X.w0
 sc:X.b.sc=X.i
 dt:X.b.dt=X.c.d
 m8:X.c.mem.length<=8
 dX:X.w0.heap.size<=X.P
 m0:X.w0.heap.size<=X.M
 ne:X.P≠X.M
 atM:X.P<X.B
 atJ:X.M<X.B
structure fg(X:fD)(v:ak)(ns:List cl)(w:ag):Prop where
 et:Kept X.w0 w
 eH:aB w X.P 75 (oI X.b X.M v)
 row:cb w X.B 45 qe 8 v ns
 mp:∃hI,hI.Nodup/\(∀x∈hI,x∈X.U)/\Ff X.fd 78 X.M hI w
 JC:X.B<=w.heap.size
section
variable {X:fD} {v v':ak} {ns:List cl} {w w':ag}
def fg.far(h:fg X v ns w)(bk:gv X):v.ownBlock≠some X.P/\v.ownBlock≠some X.M/\∀g,v.ownBlock=some g->X.w0.heap.size<=g:=by
 have hp:=bk.atM;have hm:=bk.atJ;have ar:=bk.dX;exact⟨λe=>by have:=(iF h.row _ e).1;omega,λe=>by have:=(iF h.row _ e).1;omega,λg e=>by have:=(iF h.row _ e).1;omega⟩
def fg.keep(h:fg X v ns w)(ai:Kept w w'):fg X v ns w':=by
 obtain⟨hI,ab,ad,ao⟩:=h.mp;obtain⟨f,aR,bw⟩:=id ao;exact⟨h.et.trans ai,h.eH.kept ai,h.row.lk ai,⟨hI,ab,ad,ao.kept (ai.block _ aR.lt)⟩,fN h.JC ai.size⟩
def fg.form(h:fg X v ns w):∃A c,v=ae A ns c:=by
 obtain⟨A,c,e,-⟩:=cb.jx ZJ h.row;exact⟨A,c,e⟩
def fg.node{dc:ag}{v6:ak}{o:Obj}{x:cl}(h:fg X v ns w)(bk:gv X)(bd:dc.ownsRow X.B 45 8 v6 (ns.length+1) (ns.flatMap qe++qe x))(a8:(w.alloc o).grownBy dc v.ownBlock)(dk:v6.ownBlock=v.ownBlock\/v6.ownBlock=some (w.alloc o).heap.size):
  aB dc X.P 75 (oI X.b X.M v)/\fg X v6 (ns++[x]) (dc.setCell (X.P,0) v6)/\lU X.P X.M v w v6 (dc.setCell (X.P,0) v6):=by
 obtain⟨f1,f2,f3⟩:=h.far bk;have aN:=h.eH.lt;have xy:=bk.dX;have qP:=h.et.size;have hBw:=h.JC;have s3:=bk.atM;have F':=bk.atJ;have DY:aB dc X.P 75 (oI X.b X.M v):=(a8.block X.P (by simp;omega) (λe=>f1 e.symm)).trans (h.eH.alloc o);have u':=a8.size;simp at u';obtain⟨hI,au,bt,bF⟩:=h.mp;obtain⟨f,ck,cy⟩:=id bF;have bN:=ck.lt;have dH:∀i,i<w.heap.size->i≠X.P->v.ownBlock≠some i->(dc.setCell ⟨X.P,0,none⟩ v6).heap[i]?=w.heap[i]?:=λi aD ab ao=>by
  rw[jQ dc ⟨X.P,0,none⟩ v6 i ab,a8.block i (by simp;omega) (λe=>ao e.symm),wL w o i aD]
 have Ee:(dc.setCell ⟨X.P,0,none⟩ v6).os=w.os:=a8.os;have htp:(dc.setCell ⟨X.P,0,none⟩ v6).tape=w.tape:=a8.tape;have hou:(dc.setCell ⟨X.P,0,none⟩ v6).output=w.output:=a8.output;have nN:w.heap.size<=(dc.setCell ⟨X.P,0,none⟩ v6).heap.size:=by simp;omega
 refine⟨DY,⟨⟨Ee.trans h.et.os,htp.trans h.et.tape,hou.trans h.et.output,by omega,λi aD=> ?_⟩,?_,?_,⟨hI,au,bt,bF.kept (dH _ bN (λe=>bk.ne e.symm) f2)⟩,by omega⟩,⟨Ee,htp,hou,nN,λi aD ab _ ao=>dH i aD ab ao,?_⟩⟩
 .exact (dH i (by omega) (by omega) (λe=>by have:=f3 i e;omega)).trans (h.et.block i aD)
 .have:=DY.ba 0 v6;simpa[oI] using this
 .refine rJ (ok:=λb=>b≠X.P) (cb.snoc bd) (λb _ af=>jQ dc ⟨X.P,0,none⟩ v6 b af) (λb af e=> ?_);subst e;rcases dk with aR|aR
  .exact f1 (aR▸af)
  .rw[aR]at af;have:=cJ af;simp at this;omega
 .rcases dk with aR|aR
  .exact .inl aR
  .exact .inr λg al=>by
    rw[aR]at al;have:=cJ al;simp at this;omega
theorem YE{α:Type}[DecidableEq α]:∀(l U:List α),l.Nodup->(∀x∈l,x∈U)->l.length<=U.length
 |[],_,_,_=>by simp
 |x::l,U,aH,aO=>by
  rw[zD]at aH;have aj:=aO x (by simp);have ab:=YE l (U.erase x) aH.2 λy bZ=>(List.mem_erase_of_ne (λe:y=x=>aH.1 (e▸bZ))).2 (aO y (by simp[bZ]));have ad:=ZQ aj;have ao:=ZR aj;rw[hi];omega
def fg.found(h:fg X v ns w)(bk:gv X){m d:J}{f:ak->Option ak}{hI:List (J×J)}(ji:(m,d)∈X.U)(aH:hI.Nodup)(aO:∀x∈hI,x∈X.U)(bV:∀m d,f (gZ m d)=if (m,d)∈hI then some (X.fd m d)else none)(aj:(m,d)∉hI)(bd:lY 78 X.M (hI.length+1) (CQ f (gZ m d) (X.fd m d)) w')(a8:w.grownBy w' (some X.M)):fg X v ns w'/\lU X.P X.M v w v w':=by
 obtain⟨f1,f2,f3⟩:=h.far bk;have dH:∀i,i<w.heap.size->i≠X.M->w'.heap[i]?=w.heap[i]?:=λi aD ab=>a8.block i aD (λe=>ab (cJ e));refine⟨⟨ads h.et bk.m0 a8,(dH _ h.eH.lt bk.ne).trans h.eH,rJ (ok:=λb=>b≠X.M) h.row (λb af bU=>dH b af bU) (λb af e=>f2 (e▸af)),⟨(m,d)::hI,zD.2 ⟨aj,aH⟩,λy bZ=> ?_,⟨_,bd,λjY fp=> ?_⟩⟩,fN h.JC a8.size⟩,⟨a8.os,a8.tape,a8.output,a8.size,λi aD _ ad _=>dH i aD ad,.inl rfl⟩⟩
 .rcases fM.1 bZ with rfl|bZ
  .exact ji
  .exact aO y bZ
 .by_cases he:(jY,fp)=(m,d)
  .cases he;rw[YV,aP (by simp)]
  .rw[YU _ _ (λe=>he (by obtain⟨rfl,rfl⟩:=aeX e;rfl)),bV];by_cases ai:(jY,fp)∈hI
   .rw[aP ai,aP (by simp[ai])]
   .rw[aw ai,aw (by simp[ai,he])]
end
def yA(w:ag)(g o:aa)(n:J):Prop:=g<w/\aU w (g,o)=some (ah n)
def yA.kept{w w':ag}{g o:aa}{n:J}(h:yA w g o n)(ai:Kept w w'):yA w' g o n:=⟨bG h.1 ai.size,ai.aI h.1 h.2⟩
def ajQ{ns:List cl}{m d:J}{i:aa}{x:cl}(h:ns[i]?=some x)(ar:gf (ns.take i) m d=false):gf (ns.take (i+1)) m d=rC m d x:=by
 obtain⟨aD,rfl⟩:=b2 h;rw[Ho aD];unfold gf at ar⊢;rw[List.any_append,ar];simp
def ajP{ns:List cl}{m d:J}{i:aa}{x:cl}(h:ns[i]?=some x)(aj:rC m d x=true):gf ns m d=true:=by
 unfold gf;rw[To];exact⟨x,fe h,aj⟩
def aid(x:cl)(g h:aa)(m d:J)(w:ag)(bN:yA w g 0 m)(cY:yA w h 0 d):bg 63 #[aF #[x.k,x.dp,x.m,x.cQ,x.cf,x.v.k,x.v.e,x.v.n],.pointer (some (g,0)),.pointer (some (h,0))] w (fo (rC m d x) w):=by
 unfold fo;obtain⟨ab,ad⟩:=bN;obtain⟨ao,aR⟩:=cY;obtain⟨r,aC⟩:∃r,rC m d x=r:=⟨_,rfl⟩;have aX:=I aC;have az:rC m d x=(x.k==1&&x.m==m&&x.cQ==d):=by
  unfold rC;rw[nZ];simp[and_assoc]
 rw[aC]at az⊢;obtain⟨k,dp,zy,cQ,cf,⟨cg,bK,dR⟩⟩:=x;dsimp only at*;clear aC;go_enter func63,ntmps63
 cases aQ:(k==1)
 .rw[aQ]at az;have b1:=I az;clear az;go_wp2_with fail
  go_ret;exact⟨by rw[b1];rfl,(aG w).alloc _⟩
 cases a_:(zy==m)
 .rw[aQ,a_]at az;have b1:=I az;clear az;go_wp2_with fail
  go_ret;exact⟨by rw[b1];rfl,(aG w).alloc _⟩
 rw[aQ,a_]at az;have b1:=I az;clear az;go_wp2_with fail
 go_ret;exact⟨by rw[b1];rfl,(aG w).alloc _⟩
def ali(v:ak)(xs:List cl)(g h:aa)(m d:J)(w:ag)(bk:hP w qe 8 v xs)(av:xs.length<=8796093022208)(bN:yA w g 0 m)(cY:yA w h 0 d):bg 96 #[v,.func (.func 63) #[] #[.pointer (some (g,0)),.pointer (some (h,0))]] w (vb (gf xs m d) w):=by
 obtain⟨A,cap,rfl,aj⟩:=bk;obtain⟨n,aH⟩:∃n,n=xs.length:=⟨_,rfl⟩;rw[<-aH]at av aj⊢;have bS:=I aH;have cB:=I bN;have cU:=I cY;clear aH bN cY;go_enter func96,ntmps96
 go_wp2_with fail
 go_loopw [8] (λz wr=>∃i:aa,z=ah i/\i<=n/\Kept w wr/\gf (xs.take i) m d=false) (λz _=>n-(intOf z).toNat)
 case atStart=>exact⟨0,rfl,d' _,aG _,by simp[gf]⟩
 case round=>
  obtain⟨i,rfl,dG,ax,fK⟩:=hrel;by_cases aN:i<n
  .obtain⟨b,off,rfl,af,aq⟩:=aj (by omega);have al:xs[i]?=some (xs[i]'(by have:=bS.out;omega)):=bn _;have az:=aq i _ al;have mU:=ajQ al fK;have pZ:=λe=>ajP (m:=m) (d:=d) al e;generalize xs[i]'(by have:=bS.out;omega)=x at*;have b1:=I (bb mU pZ);clear al aq aj fK mU pZ;have hr:=I (λw1(ai:Kept w w1)=>aid x g h m d w1 (cB.kept ai) (cU.kept ai));unfold fo at hr;obtain⟨r,aC⟩:∃r,rC m d x=r:=⟨_,rfl⟩;have q7:=I aC;obtain⟨k,dp,zy,cQ,cf,⟨cg,bK,dR⟩⟩:=x;have mw:=bG af ax.size;have cK:=ax.aI af (az 0 _ rfl);rw[lT]at cK;have aY:=ax.aI af (az 1 _ rfl);have a':=ax.aI af (az 2 _ rfl);have bu:=ax.aI af (az 3 _ rfl);have b4:=ax.aI af (az 4 _ rfl);have b_:=ax.aI af (az 5 _ rfl);have dn:=ax.aI af (az 6 _ rfl);have mr:=ax.aI af (az 7 _ rfl);clear az;dsimp only at*;have db:(i:J)<n:=by omega
   rw[aC]at hr;clear aC
   cases r
   .go_wp2_with (go_at_call 63;refine (hr _ ax).mono ?_;rintro e w1⟨rfl,au⟩)
    go_roundw
    case rel=>exact⟨i+1,by go_num,aN,ax.trans au,b1.1.trans q7⟩
    case measure=>simp[intOf];omega
   .go_wp2_with (go_at_call 63;refine (hr _ ax).mono ?_;rintro e w1⟨rfl,au⟩)
    go_ret;exact⟨i,rfl,by rw[b1.2 q7];simp,ax.trans au⟩
  .obtain rfl:n=i:=by omega
   have db:¬((n:J)<n):=by omega
   rw[mH (by have:=bS.out;omega)]at fK;have e':=I fK;clear fK aj;go_wp2_with fail
   go_ret;exact⟨-1,rfl,by rw[e'];rfl,ax⟩
def aiG(v:ak)(xs:List cl)(g h:aa)(m d:J)(w:ag)(bk:hP w qe 8 v xs)(av:xs.length<=8796093022208)(bN:yA w g 0 m)(cY:yA w h 0 d):bg 62 #[v,.func (.func 63) #[] #[.pointer (some (g,0)),.pointer (some (h,0))]] w (fo (gf xs m d) w):=by
 have dY:=I (ali v xs g h m d w bk av bN cY);unfold vb at dY;unfold fo;obtain⟨A,cap,rfl,-⟩:=bk;go_enter func62,ntmps62
 go_wp2_with (go_at_call 96;refine dY.mono ?_;rintro e w1⟨r,rfl,aC,au⟩)
 go_ret;exact⟨rfl,au⟩
def abL(X:fD)(bk:gv X)(v:ak)(ns:List cl)(m d:J)(w:ag)(h:fg X v ns w)(av:ns.length<=1000000):bg 36 #[.pointer (some (X.P,0)),m,d] w (fo (gf ns m d) w):=by
 have aC:=cb.jx ZJ h.row;have ct:=I (λg q w1(ai:Kept w w1)(a:yA w1 g 0 m)(b:yA w1 q 0 d)=>aiG v ns g q m d w1 (aC.kept ai) (by omega) a b);unfold fo at ct⊢;have B:=h.eH;obtain⟨A,c,rfl⟩:=h.form;have cK:=B.cell 0;have cR:=B.lt;simp only[oI,hL,iP]at cK;generalize ns.length=n at*;generalize X.P=P at*;generalize gf ns m d=r at*;clear aC h B av;obtain⟨bh,bm⟩:=(aG ((w.alloc (.cells #[m] 3)).alloc (.cells #[d] 3))).PX;go_enter func36,ntmps36
 go_wp2_with (go_at_call 62;refine (ct _ _ _ (((aG w).alloc _).alloc _) ⟨bh.lt,bh.cell 0⟩ ⟨bm.lt,bm.cell 0⟩).mono ?_;rintro e w1⟨rfl,au⟩)
 go_ret;exact⟨rfl,(((aG w).alloc _).alloc _).trans au⟩
def aqP(x:cl):∀u∈qe x,u.oneCell'=true:=by
 intro u hu;simp[qe]at hu;rcases hu with rfl|rfl|rfl|rfl|rfl|rfl|rfl|rfl<;>rfl
def tt(x:cl):ak:=aF #[x.k,x.dp,x.m,x.cQ,x.cf,x.v.k,x.v.e,x.v.n]
def n_(X:fD)(v:ak)(ns:List cl)(w:ag)(e:Ending)(w':ag):Prop:=e=bL (bj #[])/\∃v',fg X v' ns w'/\lU X.P X.M v w v' w'
def Tryz.alv:(prog.info? 45).map (λi=>(i.zero,i.size,i.bytes))=some (some (aF #[(),(),(),(),(),(),(),()]),8,64):=by kernel_rfl
def Lw(X:fD)(bk:gv X)(v:ak)(ns:List cl)(x:cl)(w:ag)(h:fg X v ns w)(av:ns.length<=1000001):bg 37 #[.pointer (some ⟨X.P,0,none⟩),tt x] w (n_ X v (ns++[x]) w):=by
 obtain⟨i0,fx,fy,fz,fA⟩:=hy Tryz.alv;obtain⟨bX,mV⟩:∃y,y=x:=⟨_,rfl⟩;have HX0:=I mV;have H1:=I (aqP x);obtain⟨k,dp,m,cQ,cf,⟨cg,bK,dR⟩⟩:=x;have aV:Kept w (w.alloc (.cells #[k,dp,m,cQ,cf,cg,bK,dR] 45)):=(aG w).alloc _;have af:=h.keep aV;have cp:=I (lU.ky (P:=X.P) (M:=X.M) (v:=v) aV);have g_:=aB.new w 45 #[k,dp,m,cQ,cf,cg,bK,dR];obtain⟨A,c,rfl⟩:=h.form;clear mV h aV;unfold n_ tt;dsimp only;go_enter func37,ntmps37
 go_upto_region 1 with fail
 generalize w.heap.size=g0 at*;generalize w.alloc (.cells #[k,dp,m,cQ,cf,cg,bK,dR] 45)=W at*;have vJ:=af.eH;have hlB:=af.JC;have dv:=I (af.keep ((aG W).drew));have bS:=I bk;have HF:=I (cp.kept ((aG W).drew));obtain⟨cK,cR⟩:=g_.p;have aY:=vJ.cell 0;have bq:=vJ.lt;have f1:=vJ.frozen 0;simp only[oI,hL,iP]at aY;generalize eJ:X.P=P at*;have dU:=I eJ;generalize aH:ns.length=n at*;have b3:=I aH;have Bl:=I (pf (w:=W.drew) (t:=45) (l:=qe ⟨k,dp,m,cQ,cf,⟨cg,bK,dR⟩⟩));have sK:Hid ((W.drew.alloc (.cells #[k,dp,m,cQ,cf,cg,bK,dR] 45)).ownsRow X.B 45 8 (ae A n c) n (ns.flatMap qe)):=I (by
  have h:=cb.alloc (w:=W.drew) dv.row (.cells #[k,dp,m,cQ,cf,cg,bK,dR] 45);unfold cb at h;rwa [aH]at h)
 have zN:Hid (X.B<=(W.drew.alloc (.cells #[k,dp,m,cQ,cf,cg,bK,dR] 45)).heap.size):=I (by simp;omega);have pq:n+1<=maxLen:=by unfold maxLen;omega
 clear eJ aH af vJ;go_region_law (first|(refine Hj _ rfl (.tmp 8) (.tmp 10) 40 rfl X.B 45 i0 (aF #[(),(),(),(),(),(),(),()]) 8 64 underlying40 fx fy fz fA rfl (by decide) _ n (ns.flatMap qe) (by simp[Act.eval]) sK ⟨W.drew.heap.size,0,none⟩ 1 1 (qe ⟨k,dp,m,cQ,cf,⟨cg,bK,dR⟩⟩) (by simp[Act.eval]) rfl Bl H1 (by decide) pq (by omega) zN _ rfl ?_;intro g6 dn dc bd a8 dk ud;have gm:=I (fg.node (v6:=ae (some ⟨g6,0,none⟩) (n+1) dn) (x:=⟨k,dp,m,cQ,cf,⟨cg,bK,dR⟩⟩) dv bS (by rw[b3];exact bd) a8 (dk.imp (λe=>e.symm) (λe=>by rw[e];rfl)));have gU:=gm.1;rw[dU]at gU;have m6:=gU.lt;have f6:=gU.frozen 0;have d6:=gU.cell 0;simp only[oI,hL,iP]at d6;clear gU bd a8 dk ud))
 all_goals
  go_end0
  have ai:=HF.out;rw[<-dU]at ai⊢;rw[b3];exact⟨rfl,_,gm.2.1,ai.trans gm.2.2⟩
def hY(r:J×J):dN:=[ah r.1,r.2]
def m'(r:J×J):(hY r).length=2:=rfl
def jJ(l:List (J×J))(r:J×J):Bool:=decide (r∈l)
def ajO{l:List (J×J)}{r x:J×J}{i:aa}(h:l[i]?=some x)(ar:jJ (l.take i) r=false):jJ (l.take (i+1)) r=(r.1==x.1&&r.2==x.2):=by
 obtain⟨aD,rfl⟩:=b2 h;rw[Ho aD];unfold jJ at ar⊢;rw[vC]at ar;rw[nZ];simp only[k5,kb,gg,nB,beq_iff_eq,ar,false_or,Prod.ext_iff]
def ajN{l:List (J×J)}{r x:J×J}{i:aa}(h:l[i]?=some x)(aj:(r.1==x.1&&r.2==x.2)=true):jJ l r=true:=by
 unfold jJ;rw[gg];have e:r=x:=by
  rw[Prod.ext_iff];simpa using aj
 rw[e];exact fe h
def alj(v:ak)(xs:List (J×J))(r:J×J)(w:ag)(bk:hP w hY 2 v xs)(av:xs.length<=8796093022208):bg 160 #[v,aF #[r.1,r.2]] w (vb (jJ xs r) w):=by
 obtain⟨A,cap,rfl,aj⟩:=bk;obtain⟨n,aH⟩:∃n,n=xs.length:=⟨_,rfl⟩;rw[<-aH]at av aj⊢;have bS:=I aH;obtain⟨W0,MB⟩:∃W0,W0=w.alloc (.cells #[r.1,r.2] 127):=⟨_,rfl⟩;have aV:Kept w W0:=by rw[MB];exact (aG w).alloc _
 have bo:aB W0 w 127 #[r.1,r.2]:=by rw[MB];exact aB.new _ _ _
 clear aH;go_enter func160,ntmps160
 go_wp2_with fail
 rw[<-MB];go_loopw [8] (λz wr=>∃i:aa,z=ah i/\i<=n/\Kept W0 wr/\jJ (xs.take i) r=false) (λz _=>n-(intOf z).toNat)
 case atStart=>exact⟨0,rfl,d' _,aG _,by simp[jJ]⟩
 case round=>
  obtain⟨i,rfl,dG,ax,fK⟩:=hrel;have cK:=(bo.kept ax).cell;have cR:=(bo.kept ax).lt;by_cases aN:i<n
  .obtain⟨b,off,rfl,af,aq⟩:=aj (by omega);have al:xs[i]?=some (xs[i]'(by have:=bS.out;omega)):=bn _;have az:=aq i _ al;have mU:=ajO al fK;have pZ:=λe=>ajN (r:=r) al e;generalize xs[i]'(by have:=bS.out;omega)=x at*;have b1:=I (bb mU pZ);clear al aq aj fK mU pZ;have gj:=aV.trans ax;have mw:=bG af gj.size;have d0:=gj.aI af (az 0 _ rfl);rw[lT]at d0;have d1:=gj.aI af (az 1 _ rfl);obtain⟨bQ,cx⟩:=x;obtain⟨hh,iC⟩:=r;clear az;dsimp only at*;have db:(i:J)<n:=by omega
   cases aQ:(hh==bQ)<;>cases a_:(iC==cx)
   case true.true=>
    have cW:=I (b1.2 (by rw[aQ,a_];rfl));go_upto_region 4 with fail
    go_region
    go_wp2_with fail
    go_ret;exact⟨i,rfl,by rw[cW];simp,gj.drew⟩
   all_goals
    have cW:=I (b1.1.trans (by rw[aQ,a_];first|done|rfl));go_upto_region 4 with fail
    go_region
    go_wp2_with fail
    go_roundw
    case rel=>exact⟨i+1,by go_num,aN,ax.drew,cW⟩
    case measure=>simp[intOf];omega
  .obtain rfl:n=i:=by omega
   have db:¬((n:J)<n):=by omega
   rw[mH (by have:=bS.out;omega)]at fK;have e':=I fK;clear fK aj;go_wp2_with fail
   go_ret;exact⟨-1,rfl,by rw[e'];rfl,aV.trans ax⟩
def BQ(v:ak)(xs:List (J×J))(r:J×J)(w:ag)(bk:hP w hY 2 v xs)(av:xs.length<=8796093022208):bg 135 #[v,aF #[r.1,r.2]] w (fo (jJ xs r) w):=by
 have aV:Kept w (w.alloc (.cells #[r.1,r.2] 127)):=(aG w).alloc _;have bo:=aB.new w 127 #[r.1,r.2];have dY:=I (alj v xs r _ (bk.kept aV) av);unfold vb at dY;unfold fo;obtain⟨A,cap,rfl,-⟩:=bk;obtain⟨hh,iC⟩:=r;dsimp only at*;obtain⟨cK,cR⟩:=bo.p;go_enter func135,ntmps135
 go_wp2_with (go_at_call 160;refine dY.mono ?_;rintro e w1⟨q,rfl,aC,au⟩)
 go_ret;exact⟨by rw[<-aC];rfl,aV.trans au⟩
def afe{l:cO}{s:cq}{xs:List cw}{t:dh}(h:nT (qa l s) xs=(t,0)){x:cw}(aj:x∈xs):(x.o=33->x.n<l.tb.length)/\(x.o=34->0<=x.n/\x.n/8<l.tb.length):=by
 constructor
 all_goals
  intro aA;unfold nT at h;split at h
  .rename_i ab;exact absurd (congrArg Prod.snd h) ab
  obtain⟨bA,jw⟩:=Zr _ _ (congrArg Prod.snd h) x aj;unfold mC at jw;rw[aw (by omega),aw (by omega),aw (by omega),aw (by omega),aw (by omega),aP (by omega)]at jw;unfold C2 at jw
 .by_cases bw:(l.tb:J)<=x.n
  .rw[aw (λaT=>by omega),aP (.inr (by rw[aw (by omega)];simp only[qa,er];exact bw))]at jw
   cases jw
  .omega
 .by_cases hX:x.o=34/\(x.n<0\/zx (x.n% 8)=false)
  .rw[aP hX]at jw
   cases jw
  by_cases bw:(l.tb:J)<=x.n/8
  .rw[aw hX,aP (.inr (by rw[aP aA];simp only[qa,er];exact bw))]at jw
   cases jw
  .refine⟨?_,by omega⟩;by_cases eI:x.n<0
   .exact absurd ⟨aA,.inl eI⟩ hX
   .omega
def lA.tab{l:cO}{i:aa}{s:cq}(h:lA l i s){r:br}(aC:r∈s.rs){x:cw}(aj:x∈r.g\/x∈r.v):(x.o=33->x.n<l.tb.length)/\(x.o=34->0<=x.n/\x.n/8<l.tb.length):=by
 obtain⟨j,ay⟩:=mc aC;have H:=h.rs j r ay;rcases aj with aj|aj
 .exact afe (H.DU (by cases al:r.g with|nil=>rw[al]at aj;cases aj|cons a b=>simp)) aj
 .have aN:r.bx.toNat<s.ds.length:=by have:=H.bx;omega
  exact afe (H.hv _ (bn aN)) aj
def aej{l:cO}{i:aa}{s:cq}(h:lA l i s)(hm:(bl l s).ds.length<=12)(aE:s.ds.length<=12)(cr:l.tb.length<=8796093022208)(aD:s.ins.length<=8796093022208){r:br}(aC:r∈s.rs){x:cw}(aj:x∈r.g\/x∈r.v){z:J×J}(bP:p' x=some z):z.2<=8796093022208:=by
 obtain⟨t1,t2,t3,t4,t5⟩:=h.node aC aj;obtain⟨u1,u2⟩:=h.tab aC aj;rcases SK bP with⟨aA,rfl⟩|⟨aA,rfl⟩|⟨aA,rfl⟩|⟨aA,rfl⟩|⟨aA,rfl⟩|⟨aA,rfl⟩
 .have:=t1 aA;show x.n<=_;omega
 .have:=t2 aA;show x.n<=_;omega
 .show (0:J)<=_;omega
 .have:=u1 aA;show x.n<=_;omega
 .have:=u2 aA;show x.n.tdiv 8<=_;rw[Hh this.1];omega
 .have:=t5 aA.1 aA.2;show x.n<=_;omega
section
variable {l:cO} {i:aa} {s:cq} {c:gl} {d0:J}
def kd.anW(h:kd l i s c d0)(cr:l.tb.length<=8796093022208)(aO:∀s∈l.sc,s.ins.length<=8796093022208){m d:J}(al:Hy l s c d0 m d){z:J×J}(bP:z∈jy l s c m d):z.2<=8796093022208:=by
 have eb:=h.ok.sc.all i s h.at_;have DV:=(h.ok.sc.small h.mem).2;have Xb:=(h.ok.sc.C0 h.mem).2;rcases al with⟨rfl,aE⟩|⟨ar,ab,ad,ao,aR⟩
 .obtain⟨v,q,r,aQ,a_,cv,-⟩:=h.own aE;unfold jy at bP;rw[aP (by decide),aQ]at bP;dsimp only at bP;rw[c7,a_,b9,JG]at bP;rcases bP with bP|⟨x,aj,bP⟩
  .cases bP
  exact aej eb Xb DV cr (aO s h.mem) (fe a_) aj bP
 .obtain⟨sh,dK,jW⟩:=h.JF (by omega);have cB:=h.ok.sc.all _ _ dK;have mR:=fe dK;unfold jy at bP;rw[aw (by omega),NL]at bP;rcases bP with bP|⟨j,ay,x,aj,bP⟩
  .cases bP
  have pn:=me.1 ay;have pk:=bn (l:=c.mem) (i:=(j:J).toNat) (by omega);obtain⟨v,q,r,aQ,a_,cv,-⟩:=h.t' (m:=(j:J)) (by omega) pk ad ao aR;rw[aQ]at aj;dsimp only at aj;rw[c7,a_,b9]at aj;exact aej cB (h.ok.sc.C0 mR).2 Xb cr (aO _ mR) (fe a_) aj bP
end
theorem Zi{C:q2}{G:J->J->Prop}{cS:J->J->aa}(aL:Good C G cS){Q:cl->Prop}(ab:∀m d k dp cf v,G m d->Q ⟨k,dp,m,d,cf,v⟩)(ad:∀m d,G m d->∀r∈C.refs m d,∀k dp cf v,Q ⟨k,dp,m,r.2,cf,v⟩):
  ∀(F:aa)(ns:List cl)(m d dp:J),cS m d<F->G m d->(∀n∈ns,Q n)->∀n∈hJ C F ns m d dp,Q n
 |0,_,_,_,_,h,_,_=>by omega
 |F+1,ns,m,d,dp,hF,al,aH=>by
  have snoc:∀(ns:List cl)(n:cl),(∀n∈ns,Q n)->Q n->∀x∈ns++[n],Q x:=λns n h ec x aj=>by
   rcases k5.1 aj with aj|aj
   .exact h x aj
   .rw[kb]at aj;exact aj▸ec
  have fold:∀{α:Type}(g:List cl->α->List cl)(l:List α),(∀x∈l,∀ns,(∀n∈ns,Q n)->∀n∈g ns x,Q n)->∀ns,(∀n∈ns,Q n)->∀n∈l.foldl g ns,Q n:=λg l=>by
   induction l with
   |nil=>exact λ_ ns h=>h
   |cons x l bO=>
    intro al ns h;rw[x6];exact bO (λy bZ=>al y (by simp[bZ])) _ (al x (by simp) ns h)
  rw[hJ];split
  .exact snoc _ _ aH (ab _ _ _ _ _ _ al)
  .refine fold _ _ (λr aC ns y8=> ?_) _ (snoc _ _ aH (ab _ _ _ _ _ _ al));obtain⟨hh,iC,kY,sr,EE⟩:=aL.ref m d al r aC;unfold qz;split
   .exact snoc _ _ y8 (ad m d al r aC _ _ _ _)
   .split
    .rename_i au;obtain⟨g1,g2⟩:=sr au;exact Zi aL ab ad F ns m r.2 (dp+1) (by omega) g1 y8
    .split
     .exact snoc _ _ y8 (ad m d al r aC _ _ _ _)
     .split
      .exact snoc _ _ y8 (ad m d al r aC _ _ _ _)
      .refine fold _ _ (λj ay ns y8=> ?_) _ y8;obtain⟨g1,g2⟩:=EE (by omega) j (me.1 ay);exact Zi aL ab ad F ns (j:J) r.2 (dp+1) (by omega) g1 y8
theorem aeY:∀(a b:List aa),a.length=b.length->(∀(j x y:aa),a[j]?=some x->b[j]?=some y->x<=y)->a.sum<=b.sum
 |[],_,_,_=>by simp
 |x::a,[],h,_=>by simp at h
 |x::a,y::b,h,aj=>by
  rw[Dd,Dd];have ab:=aj 0 x y rfl rfl;have ad:=aeY a b (by simpa using h) λj u v hu aK=>aj (j+1) u v (by simpa using hu) (by simpa using aK);omega
def qV(l:cO):aa:=(l.sc.map (·.rs.length)).sum
def anP(s:cq)(keep:aW):(ht s keep).length<=s.rs.length:=by
 rw[Y0,er];unfold tf;exact fN (nX _ _) (by rw[vG];exact bB _)
def tK.rules{l l':cO}(h:tK l l'):qV l'<=qV l:=by
 unfold qV;refine aeY _ _ (by rw[er,er,h.len]) λj x y aj bZ=> ?_;rw[hS,Da]at aj bZ;obtain⟨a,bD,rfl⟩:=aj;obtain⟨b,af,rfl⟩:=bZ;obtain⟨j7,ab,ad⟩:=h.at_ j b af;obtain rfl:=cJ (bD.symm.trans ab);rcases ad.rs with e|⟨keep,e⟩
 .rw[e];exact bB _
 .rw[e];exact anP b keep
def apo(C:q2)(F:aa)(m d dp:J):∃vp,hJ C (F+1) [] m d dp=⟨1,dp,m,d,C.nS m d,C.val m d⟩::vp:=by
 rw[hJ,aw (by simp[gf]),qj];have key:∀(f:List cl->J->J->J->List cl),(∀ns m d dp,∃s,f ns m d dp=ns++s)->∀(m dp:J)(l:List (J×J))(ns:List cl),∃s,l.foldl (qz C f m (dp+1)) ns=ns++s:=by
  intro f bV m dp l;induction l with
  |nil=>exact λns=>⟨[],by simp⟩
  |cons r l bO=>
   intro ns;rw[x6];obtain⟨s1,ab⟩:∃s,qz C f m (dp+1) ns r=ns++s:=by
    unfold qz;split
    .exact⟨_,rfl⟩
    .split
     .exact bV _ _ _ _
     .split
      .exact⟨_,rfl⟩
      .split
       .exact⟨_,rfl⟩
       .have:∀(vc:List aa)(ns:List cl),∃s,vc.foldl (λns(j:aa)=>f ns (j:J) r.2 (dp+1)) ns=ns++s:=by
         intro vc;induction vc with
         |nil=>exact λns=>⟨[],by simp⟩
         |cons j vc ih2=>
          intro ns;rw[x6];obtain⟨a,bD⟩:=bV ns (j:J) r.2 (dp+1);rw[bD];obtain⟨b,af⟩:=ih2 (ns++a);exact⟨a++b,by rw[af,nY]⟩
        exact this _ _
   rw[ab];obtain⟨s2,ad⟩:=bO (ns++s1);exact⟨s1++s2,by rw[ad,nY]⟩
 have wi:∀F ns m d dp,∃s,hJ C F ns m d dp=ns++s:=by
  intro F;induction F with
  |zero=>exact λns _ _ _=>⟨[],by simp[hJ]⟩
  |succ F bO=>
   intro ns m d dp;rw[hJ];split
   .exact⟨_,rfl⟩
   .obtain⟨s,aO⟩:=key (hJ C F) bO m dp (C.refs m d) (ns++[⟨1,dp,m,d,C.nS m d,C.val m d⟩]);exact⟨⟨1,dp,m,d,C.nS m d,C.val m d⟩::s,by rw[aO,nY,J_]⟩
 obtain⟨s,aO⟩:=key (hJ C F) (wi F) m dp (C.refs m d) [⟨1,dp,m,d,C.nS m d,C.val m d⟩];exact⟨s,by rw[aO];rfl⟩
def am0:ez:=⟨#[104,111,117,115,101]⟩
def amZ:ez:=⟨#[98,97,115,101]⟩
def wE(c:UInt8):mI:=⟨⟨#[c]⟩,3,0⟩
def G9(x:cw):br:=⟨amZ,0,-1,0,0,109573,[],[x],⟨#[]⟩⟩
def ES(x:cw):cq:=⟨am0,-1,[wE 97],[wE 100],[G9 x]⟩
def nz(x:cw):cO:=⟨[],[],[ES x]⟩
def oX:cw:=⟨7,0⟩
def ER:gl:=⟨0,[⟨3,0,500⟩],[]⟩
def SY{α:Type}{P:aa->α->Prop}{x:α}(h:P 0 x):∀j y,[x][j]?=some y->P j y:=λj y ay=>by
 match j,ay with
 |0,ay=>cases ay;exact h
def apH{x:cw}(h:x=oX):xd (qa (nz x) (ES x)) (ES x) 0 (G9 x):=by
 subst h;exact
  {id:=by decide+kernel,zn:=rfl,bx:=by decide+kernel,bJ:= .inl rfl,d_:=by decide+kernel,qd:=by decide+kernel,fS:=by decide+kernel,xR:=by decide+kernel
   DU:=λh=>by cases h
   hv:=λf bV=>by cases bV;rfl}
def ae8(c:UInt8)(h:c=97\/c=100)(a b:List mI)(bD:(wE c).aM∉a.map (·.aM))(af:(wE c).aM∉b.map (·.aM)):q3 [] (wE c) a b:=by
 refine⟨?_,bD,af,rfl⟩;rcases h with rfl|rfl<;>decide+kernel
def apI{x:cw}(h:x=oX):lA (nz x) 0 (ES x):=by
 have aC:=apH h;subst h;exact
  {ne:=rfl,jZ:=rfl,zn:=rfl,id:=by decide+kernel,ms:= .inl rfl,i12:=by decide+kernel,d12:=by decide+kernel
   ins:=SY (P:=λj f=>q3 _ f (List.take j [wE 97]) []) (ae8 97 (.inl rfl) _ _ (by simp) (by simp))
   ds:=SY (P:=λj f=>q3 _ f [wE 97] (List.take j [wE 100])) (ae8 100 (.inr rfl) _ _ (by simp[wE]) (by simp))
   rs:=SY (P:=λj r=>xd _ _ j r) aC
   ac:=λd aE=>by
    obtain rfl:d=0:=Nat.lt_one_iff.1 aE;decide+kernel}
def apE{x:cw}(h:x=oX):lx (nz x):=
 ⟨⟨d' _,λi y bZ=>by simp[nz]at bZ⟩,⟨d' _,λi y bZ=>by simp[nz]at bZ⟩,⟨by simp[nz],SY (P:=λi s=>lA (nz x) i s) (apI h)⟩⟩
def apG(x:cw):w6 (nz x) 0 0:=⟨by simp[nz],by simp[nz,ES]⟩
def apC{x:cw}(h:x=oX):n' (nz x) 0 ER 0=0:=by
 rw[Ip (apE h) (apG x)];subst h;decide+kernel
def Zu:eD (nz oX) 0 ER 0=⟨⟨3,0,500⟩,0,0,0,0,0⟩:=by
 rw[L6 (apC rfl)];kernel_rfl
def ap5:hJ (yR (nz oX) (ES oX) ER) (na (nz oX) (ES oX) (-1) 0+1) [] (-1) 0 0=[⟨1,0,-1,0,0,⟨3,0,500⟩⟩,⟨2,1,-1,0,-1,⟨3,0,500⟩⟩]:=by
 kernel_rfl
end Go.Proofs.YtilhklpfkgbikaaGreatDoor
