import Derived.Test.YtilhklpfkgbikaaGreatDoorN
import Derived.Test.YtilhklpfkgbikaaGreatDoorR
set_option linter.all false
namespace Go.Proofs.YtilhklpfkgbikaaGreatDoor
open Go.RowKit Go.Proofs.Tryz
set_option maxRecDepth 100000
set_option maxHeartbeats 8000000
noncomputable def cz:gD:=⟨rK,yG⟩
def hA(r:bC×J)(w:ag)(e:Ending)(w':ag):Prop:=e=bL (bj #[aF #[r.1.k,r.1.e,r.1.n],r.2])/\Kept w w'
def air(o n:J)(dF bK:ak)(args:List bC)(E:dT)(w:ag)(a1:je w bK E)(aA:1<=o/\o<=5):bg 158 #[aF #[o,n],dF,bK] w (hA (gd cz ⟨o,n⟩ args E) w):=by
 unfold hA;obtain⟨dm,aY,dx,a',dq,bu,fr,b4,e6,b_,rfl,ab,ad,ao,aR,bw⟩:=a1.open_;have aX:=I (show gd cz ⟨o,n⟩ args E=(⟨o,0,n⟩,0) by unfold gd;rw[aP aA]);obtain⟨R,aJ⟩:∃R,R=gd cz ⟨o,n⟩ args E:=⟨_,rfl⟩;rw[<-aJ]at aX⊢;clear aJ;obtain⟨⟨cS,eo,di⟩,rc⟩:=R;obtain⟨rfl,rfl,rfl,rfl⟩:=j2 aX;have Gv:(cS==1)=true\/((cS==1)=false/\(cS==2)=true)\/((cS==1)=false/\(cS==2)=false/\(cS==3)=true)\/((cS==1)=false/\(cS==2)=false/\(cS==3)=false/\(cS==4)=true)\/((cS==1)=false/\(cS==2)=false/\(cS==3)=false/\(cS==4)=false/\(cS==5)=true):=by simp;omega
 clear ab ad ao aR bw a1 aA aX;obtain⟨x9,yN⟩:True/\True:=⟨trivial,trivial⟩;clear x9 yN;rcases Gv with bd|⟨bd,a8⟩|⟨bd,a8,dI⟩|⟨bd,a8,dI,dk⟩|⟨bd,a8,dI,dk,ud⟩
 all_goals
  go_enter func158,ntmps158
  go_wp2_with fail
  exact bI (v:=bj #[aF #[cS,(),di],()]) (by simp[results,results158,go_sem]) rfl ⟨rfl,(aG _).aZ.aZ.aZ⟩
def ain(o n:J)(dF bK:ak)(args:List bC)(E:dT)(w:ag)(a1:je w bK E)(aA:o=6)(aH:0<=n/\n<=9223372036854775807):bg 158 #[aF #[o,n],dF,bK] w (hA (gd cz ⟨o,n⟩ args E) w):=by
 unfold hA;obtain⟨dm,aY,dx,a',dq,bu,fr,b4,e6,b_,rfl,ab,ad,ao,aR,bw⟩:=a1.open_;have aX:=I (show gd cz ⟨o,n⟩ args E=(⟨6,n/16,n% 16⟩,0) by unfold gd;rw[aw (by simp only;omega),aP (by simp only;omega)]);obtain⟨R,aJ⟩:∃R,R=gd cz ⟨o,n⟩ args E:=⟨_,rfl⟩;rw[<-aJ]at aX⊢;clear aJ;obtain⟨⟨cS,eo,di⟩,rc⟩:=R;obtain⟨rfl,rfl,rfl,rfl⟩:=j2 aX;obtain⟨BK,BL,BM,BN,BO,yH⟩:(o==1)=false/\(o==2)=false/\(o==3)=false/\(o==4)=false/\(o==5)=false/\(o==6)=true:=by refine⟨?_,?_,?_,?_,?_,?_⟩<;>(simp;omega)
 obtain⟨kI,e9⟩:=aH;have aQ:n.tdiv 16=n/16:=Hh kI;have a_:n.tmod 16=n% 16:=OF kI;clear ab ad ao aR bw a1 aA aX;go_enter func158,ntmps158
 go_wp2_with fail
 exact bI (v:=bj #[aF #[ah 6,ah (n/16),ah (n% 16)],()]) (by simp[results,results158,go_sem]) rfl ⟨rfl,(aG _).aZ.aZ.aZ⟩
def aio(o n:J)(dF bK:ak)(args:List bC)(E:dT)(w:ag)(a1:je w bK E)(aA:o=7)(hex:oi n E.ins=true):bg 158 #[aF #[o,n],dF,bK] w (hA (gd cz ⟨o,n⟩ args E) w):=by
 unfold hA;obtain⟨dm,aY,dx,a',dq,bu,fr,b4,e6,b_,rfl,ab,ad,ao,aR,bw⟩:=a1.open_;obtain⟨k,x,rfl,lF,aj⟩:=Ap hex;obtain⟨b,off,rfl,af,bX,bQ,cx⟩:=ab.get aj;have aX:=I (show gd cz ⟨o,k⟩ args E=(x,0) by unfold gd;rw[aw (by simp only;omega),aw (by simp only;omega),aP (by simp only;omega)];simp[aj]);obtain⟨R,aJ⟩:∃R,R=gd cz ⟨o,k⟩ args E:=⟨_,rfl⟩;rw[<-aJ]at aX⊢;clear aJ;obtain⟨⟨cS,eo,di⟩,rc⟩:=R;obtain⟨ep,fj,iO⟩:=x;obtain⟨rfl,rfl,rfl,rfl⟩:=j2 aX;obtain⟨BK,BL,BM,BN,BO,gU,yH⟩:(o==1)=false/\(o==2)=false/\(o==3)=false/\(o==4)=false/\(o==5)=false/\(o==6)=false/\(o==7)=true:=by refine⟨?_,?_,?_,?_,?_,?_,?_⟩<;>(simp;omega)
 clear ab ad ao aR bw a1 aA aX aj hex;obtain⟨dt,ins,ds,ms,mt,tb⟩:=E;dsimp only at*;go_enter func158,ntmps158
 go_upto_region 1 with fail
 generalize aL:((w.alloc _).alloc _).alloc _=W at*;obtain⟨aV,bo,bh,bm⟩:=Kept.cv aL;clear aL;obtain⟨dX,cR⟩:=bo.p;obtain⟨dM,bq⟩:=bh.p;obtain⟨dQ,b5,zq⟩:=bm.q;have iI:=aV.aI af bX;have kk:=aV.aI af bQ;have lf:=aV.aI af cx;have hE:=bG af aV.size;clear bX bQ cx;go_wp2_with fail
 have Z:=(((bm.ba 0 (ah (cS))).ba 1 (ah (eo))).ba 2 (ah (di))).cell;exact bI (v:=bj #[aF #[cS,eo,di],()]) (by simp[results,results158,go_sem,Z]) rfl ⟨rfl,aV.sc (by omega)|>.sc (by omega)|>.sc (by omega)⟩
def aip(o n:J)(dF bK:ak)(args:List bC)(E:dT)(w:ag)(a1:je w bK E)(aA:o=8)(hex:oi n E.ds=true):bg 158 #[aF #[o,n],dF,bK] w (hA (gd cz ⟨o,n⟩ args E) w):=by
 unfold hA;obtain⟨dm,aY,dx,a',dq,bu,fr,b4,e6,b_,rfl,ab,ad,ao,aR,bw⟩:=a1.open_;obtain⟨k,x,rfl,lF,aj⟩:=Ap hex;obtain⟨b,off,rfl,af,bX,bQ,cx⟩:=ad.get aj;have aX:=I (show gd cz ⟨o,k⟩ args E=(x,0) by unfold gd;rw[aw (by simp only;omega),aw (by simp only;omega),aw (by simp only;omega),aP (by simp only;omega)];simp[aj]);obtain⟨R,aJ⟩:∃R,R=gd cz ⟨o,k⟩ args E:=⟨_,rfl⟩;rw[<-aJ]at aX⊢;clear aJ;obtain⟨⟨cS,eo,di⟩,rc⟩:=R;obtain⟨ep,fj,iO⟩:=x;obtain⟨rfl,rfl,rfl,rfl⟩:=j2 aX;obtain⟨BK,BL,BM,BN,BO,gU,sS,yH⟩:(o==1)=false/\(o==2)=false/\(o==3)=false/\(o==4)=false/\(o==5)=false/\(o==6)=false/\(o==7)=false/\(o==8)=true:=by refine⟨?_,?_,?_,?_,?_,?_,?_,?_⟩<;>(simp;omega)
 clear ab ad ao aR bw a1 aA aX aj hex;obtain⟨dt,ins,ds,ms,mt,tb⟩:=E;dsimp only at*;go_enter func158,ntmps158
 go_upto_region 1 with fail
 generalize aL:((w.alloc _).alloc _).alloc _=W at*;obtain⟨aV,bo,bh,bm⟩:=Kept.cv aL;clear aL;obtain⟨dX,cR⟩:=bo.p;obtain⟨dM,bq⟩:=bh.p;obtain⟨dQ,b5,zq⟩:=bm.q;have iI:=aV.aI af bX;have kk:=aV.aI af bQ;have lf:=aV.aI af cx;have hE:=bG af aV.size;clear bX bQ cx;go_wp2_with fail
 have Z:=(((bm.ba 0 (ah (cS))).ba 1 (ah (eo))).ba 2 (ah (di))).cell;exact bI (v:=bj #[aF #[cS,eo,di],()]) (by simp[results,results158,go_sem,Z]) rfl ⟨rfl,aV.sc (by omega)|>.sc (by omega)|>.sc (by omega)⟩
def aiq(o n:J)(dF bK:ak)(args:List bC)(E:dT)(w:ag)(a1:je w bK E)(aA:o=9):bg 158 #[aF #[o,n],dF,bK] w (hA (gd cz ⟨o,n⟩ args E) w):=by
 unfold hA;obtain⟨dm,aY,dx,a',dq,bu,fr,b4,e6,b_,rfl,ab,ad,ao,aR,bw⟩:=a1.open_;have aX:=I (show gd cz ⟨o,n⟩ args E=(⟨5,0,E.dt⟩,0) by unfold gd;rw[aw (by simp only;omega),aw (by simp only;omega),aw (by simp only;omega),aw (by simp only;omega),aP (by simp only;omega)]);obtain⟨R,aJ⟩:∃R,R=gd cz ⟨o,n⟩ args E:=⟨_,rfl⟩;rw[<-aJ]at aX⊢;clear aJ;obtain⟨⟨cS,eo,di⟩,rc⟩:=R;obtain⟨rfl,rfl,rfl,rfl⟩:=j2 aX;obtain⟨BK,BL,BM,BN,BO,gU,sS,hb,yH⟩:(o==1)=false/\(o==2)=false/\(o==3)=false/\(o==4)=false/\(o==5)=false/\(o==6)=false/\(o==7)=false/\(o==8)=false/\(o==9)=true:=by refine⟨?_,?_,?_,?_,?_,?_,?_,?_,?_⟩<;>(simp;omega)
 clear ab ad ao aR bw a1 aA aX;go_enter func158,ntmps158
 go_wp2_with fail
 exact bI (v:=bj #[aF #[ah 5,(),E.dt],()]) (by simp[results,results158,go_sem]) rfl ⟨rfl,(aG _).aZ.aZ.aZ⟩
def aim(o n:J)(dF bK:ak)(args:List bC)(E:dT)(w:ag)(a1:je w bK E)(aA:o=35):bg 158 #[aF #[o,n],dF,bK] w (hA (gd cz ⟨o,n⟩ args E) w):=by
 unfold hA;obtain⟨dm,aY,dx,a',dq,bu,fr,b4,e6,b_,rfl,ab,ad,ao,aR,bw⟩:=a1.open_;have aX:=I (show gd cz ⟨o,n⟩ args E=(⟨2,0,E.ms.length⟩,0) by unfold gd;rw[aw (by simp only;omega),aw (by simp only;omega),aw (by simp only;omega),aw (by simp only;omega),aw (by simp only;omega),aP (by simp only;omega)]);obtain⟨R,aJ⟩:∃R,R=gd cz ⟨o,n⟩ args E:=⟨_,rfl⟩;rw[<-aJ]at aX⊢;clear aJ;obtain⟨⟨cS,eo,di⟩,rc⟩:=R;obtain⟨rfl,rfl,rfl,rfl⟩:=j2 aX;obtain⟨BK,BL,BM,BN,BO,gU,sS,hb,kl,yH⟩:(o==1)=false/\(o==2)=false/\(o==3)=false/\(o==4)=false/\(o==5)=false/\(o==6)=false/\(o==7)=false/\(o==8)=false/\(o==9)=false/\(o==35)=true:=by refine⟨?_,?_,?_,?_,?_,?_,?_,?_,?_,?_⟩<;>(simp;omega)
 clear ab ad ao aR bw a1 aA aX;go_enter func158,ntmps158
 go_wp2_with fail
 exact bI (v:=bj #[aF #[ah 2,(),ah (E.ms:aa)],()]) (by simp[results,results158,go_sem]) rfl ⟨rfl,(aG _).aZ.aZ.aZ⟩
def ais(o n:J)(dF bK:ak)(args:List bC)(E:dT)(w:ag)(a1:je w bK E)(aA:o=36\/o=37\/o=38\/o=39)(hex:oi n E.mt=true):bg 158 #[aF #[o,n],dF,bK] w (hA (gd cz ⟨o,n⟩ args E) w):=by
 unfold hA;obtain⟨dm,aY,dx,a',dq,bu,fr,b4,e6,b_,rfl,ab,ad,ao,aR,bw⟩:=a1.open_;obtain⟨k,x,rfl,lF,aj⟩:=Ap hex;have aX:=I (show gd cz ⟨o,k⟩ args E=CP ⟨o,k⟩ E by unfold gd;rw[aw (by simp only;omega),aw (by simp only;omega),aw (by simp only;omega),aw (by simp only;omega),aw (by simp only;omega),aw (by simp only;omega),aP (by simp only;omega)]);have eG:=I (λw1(h:Kept w w1)=>anw o k aA _ E w1 (a1.kept h) (by omega));unfold YN at eG;rw[<-aX]at eG;obtain⟨R,aJ⟩:∃R,R=gd cz ⟨o,k⟩ args E:=⟨_,rfl⟩;rw[<-aJ]at eG⊢;clear aJ aX;obtain⟨⟨cS,eo,di⟩,rc⟩:=R;obtain⟨BK,BL,BM,BN,BO,gU,sS,hb,kl,PT⟩:(o==1)=false/\(o==2)=false/\(o==3)=false/\(o==4)=false/\(o==5)=false/\(o==6)=false/\(o==7)=false/\(o==8)=false/\(o==9)=false/\(o==35)=false:=by refine⟨?_,?_,?_,?_,?_,?_,?_,?_,?_,?_⟩<;>(simp;omega)
 have Gv:(o==36)=true\/((o==36)=false/\(o==37)=true)\/((o==36)=false/\(o==37)=false/\(o==38)=true)\/((o==36)=false/\(o==37)=false/\(o==38)=false/\(o==39)=true):=by simp;omega
 clear ab ad ao aR bw a1 aA aj hex;rcases Gv with bd|⟨bd,a8⟩|⟨bd,a8,dI⟩|⟨bd,a8,dI,dk⟩
 all_goals
  go_enter func158,ntmps158
  go_wp2_with (go_at_call 173;refine (eG _ ((aG _).aZ.aZ.aZ)).mono ?_;rintro y w1⟨rfl,au⟩;obtain⟨dE,jk⟩:=Kept.cells au;have cG:=au.size;(try simp at cG))
  exact bI (v:=bj #[aF #[cS,eo,di],rc]) (by simp[results,results158,go_sem,dE]) rfl ⟨rfl,(aG _).aZ.aZ.aZ.trans au|>.sc (by omega)|>.sc (by omega)|>.sc (by omega)⟩
def Qc(o n:J)(dF bK:ak)(args:List bC)(E:dT)(w:ag)(a1:je w bK E)(a:bC)(bD:args=[a])(a7:ft w dF args)(aA:o=10\/o=25\/o=31\/o=32)(bJ:iv a=true)(bN:Mon w):bg 158 #[aF #[o,n],dF,bK] w (hA (gd cz ⟨o,n⟩ args E) w):=by
 unfold hA;obtain⟨dm,aY,dx,a',dq,bu,fr,b4,e6,b_,rfl,ab,ad,ao,aR,bw⟩:=a1.open_;subst bD;obtain⟨x9,yN,rfl,-⟩:=a7.at_;obtain⟨b,off,rfl,af,bX,bQ,cx⟩:=a7.get (k:=0) rfl;have aX:=I (show gd cz ⟨o,n⟩ [a] E=(Hb o a,0) by
  unfold gd;rw[aw (by simp only;omega),aw (by simp only;omega),aw (by simp only;omega),aw (by simp only;omega),aw (by simp only;omega),aw (by simp only;omega),aw (by simp only;omega),aw (by simp only;omega),aw (by simp only;omega)])
 have dU:=I (λw1(h:Kept w w1)=>aqn o a.k a.e a.n aA bJ w1 (bN.kept h));rw[show (⟨a.k,a.e,a.n⟩:bC)=a from rfl]at dU;obtain⟨u,hu⟩:∃u,u=Hb o a:=⟨_,rfl⟩;rw[<-hu]at aX dU;clear hu;obtain⟨avM,avK,un⟩:=u;obtain⟨R,aJ⟩:∃R,R=gd cz ⟨o,n⟩ [a] E:=⟨_,rfl⟩;rw[<-aJ]at aX⊢;clear aJ;obtain⟨⟨cS,eo,di⟩,rc⟩:=R;obtain⟨rfl,rfl,rfl,rfl⟩:=j2 aX;obtain⟨BK,BL,BM,BN,BO,gU,sS,hb,kl,PT,Iu,Iv,Iw,Ix,FN,Lz⟩:(o==1)=false/\(o==2)=false/\(o==3)=false/\(o==4)=false/\(o==5)=false/\(o==6)=false/\(o==7)=false/\(o==8)=false/\(o==9)=false/\(o==35)=false/\(o==36)=false/\(o==37)=false/\(o==38)=false/\(o==39)=false/\(o==33)=false/\(o==34)=false:=by refine⟨?_,?_,?_,?_,?_,?_,?_,?_,?_,?_,?_,?_,?_,?_,?_,?_⟩<;>(simp;omega)
 clear ab ad ao aR bw a1 aA aX a7 bN bJ;obtain⟨dt,ins,ds,ms,mt,tb⟩:=E;dsimp only at*;go_enter func158,ntmps158
 go_upto_region 34 with fail
 generalize aL:((w.alloc _).alloc _).alloc _=W at*;obtain⟨aV,bo,bh,bm⟩:=Kept.cv aL;clear aL;obtain⟨dX,cR⟩:=bo.p;obtain⟨dM,bq⟩:=bh.p;obtain⟨dQ,b5,zq⟩:=bm.q;have z0:=aS.cell bo.lt (bo.cell 0);have iI:=aS.cell (bG af aV.size) (aV.aI af bX);have kk:=aS.cell (bG af aV.size) (aV.aI af bQ);have lf:=aS.cell (bG af aV.size) (aV.aI af cx)
 (try simp only[vA,lT]at iI kk lf)
 clear bX bQ cx dX dM dQ zq cR bq b5;refine wH 6 (by kernel_rfl) (by kernel_rfl) ?_;simp only[sz,q0,vE,rS]
 repeat (go_big_quiet_step ((go_at_call 176;exact aS.call (dU _ (aV.trans (aS.h _))))))
 refine f' ?_;rintro w2⟨⟨cj,eX⟩,aT⟩;obtain rfl:w2=cj:=aT;have df:=bm.kept eX;obtain⟨yK,yM,yL⟩:=df.q;go_wp2_with fail
 have Z:=(((df.ba 0 (ah (cS))).ba 1 (ah (eo))).ba 2 (ah (di))).cell;exact bI (v:=bj #[aF #[cS,eo,di],()]) (by simp[results,results158,go_sem,Z]) rfl ⟨rfl,aV.trans eX|>.sc (by omega)|>.sc (by omega)|>.sc (by omega)⟩
def aij(o n:J)(dF bK:ak)(args:List bC)(E:dT)(w:ag)(a1:je w bK E)(a b:bC)(bD:args=[a,b])(a7:ft w dF args)(aA:(11<=o/\o<=22)\/(27<=o/\o<=30))(bJ:iv a=true)(j1:iv b=true)(oj:yD o a b=true)(bN:Mon w):bg 158 #[aF #[o,n],dF,bK] w (hA (gd cz ⟨o,n⟩ args E) w):=by
 unfold hA;obtain⟨dm,aY,dx,a',dq,bu,fr,b4,e6,b_,rfl,ab,ad,ao,aR,bw⟩:=a1.open_;subst bD;obtain⟨x9,yN,rfl,-⟩:=a7.at_;obtain⟨pS,off,rfl,af,bX,bQ,cx⟩:=a7.get (k:=0) rfl;obtain⟨j7,adH,he,-,eU,dr,eV⟩:=a7.get (k:=1) rfl;obtain⟨rfl,rfl,-⟩:=Addr.mk.inj (cJ he);have aX:=I (show gd cz ⟨o,n⟩ [a,b] E=pT cz ⟨o,n⟩ a b by
  unfold gd;rw[aw (by simp only;omega),aw (by simp only;omega),aw (by simp only;omega),aw (by simp only;omega),aw (by simp only;omega),aw (by simp only;omega),aw (by simp only;omega),aw (by simp only;omega),aw (by simp only;omega)])
 have dU:=I (λw1(h:Kept w w1)=>ahx yG o n a.k a.e a.n b.k b.e b.n aA bJ j1 oj w1 (bN.kept h));rw[show pT ⟨rK,yG⟩ ⟨o,n⟩ ⟨a.k,a.e,a.n⟩ ⟨b.k,b.e,b.n⟩=gd cz ⟨o,n⟩ [a,b] E from aX.symm]at dU;obtain⟨R,aJ⟩:∃R,R=gd cz ⟨o,n⟩ [a,b] E:=⟨_,rfl⟩;rw[<-aJ]at dU⊢;clear aJ aX;obtain⟨⟨cS,eo,di⟩,rc⟩:=R;unfold vcV at dU;obtain⟨BK,BL,BM,BN,BO,gU,sS,hb,kl,PT,Iu,Iv,Iw,Ix,FN,Lz⟩:(o==1)=false/\(o==2)=false/\(o==3)=false/\(o==4)=false/\(o==5)=false/\(o==6)=false/\(o==7)=false/\(o==8)=false/\(o==9)=false/\(o==35)=false/\(o==36)=false/\(o==37)=false/\(o==38)=false/\(o==39)=false/\(o==33)=false/\(o==34)=false:=by refine⟨?_,?_,?_,?_,?_,?_,?_,?_,?_,?_,?_,?_,?_,?_,?_,?_⟩<;>(simp;omega)
 clear ab ad ao aR bw a1 aA a7 bN bJ j1 oj he;obtain⟨dt,ins,ds,ms,mt,tb⟩:=E;dsimp only at*;go_enter func158,ntmps158
 go_upto_region 36 with fail
 generalize aL:((w.alloc _).alloc _).alloc _=W at*;obtain⟨aV,bo,bh,bm⟩:=Kept.cv aL;clear aL;obtain⟨dX,cR⟩:=bo.p;obtain⟨dM,bq⟩:=bh.p;obtain⟨dQ,b5,zq⟩:=bm.q;have z0:=aS.cell bo.lt (bo.cell 0);have fL:=aS.cell bo.lt (bo.cell 1);have iI:=aS.cell (bG af aV.size) (aV.aI af bX);have kk:=aS.cell (bG af aV.size) (aV.aI af bQ);have lf:=aS.cell (bG af aV.size) (aV.aI af cx);have Ab:=aS.cell (bG af aV.size) (aV.aI af eU);have FI:=aS.cell (bG af aV.size) (aV.aI af dr);have Ls:=aS.cell (bG af aV.size) (aV.aI af eV)
 (try simp only[vA,Nat.one_mul,lT]at iI kk lf Ab FI Ls)
 clear bX bQ cx eU dr eV dX dM dQ zq cR bq b5;refine wH 10 (by kernel_rfl) (by kernel_rfl) ?_;simp only[sz,q0,vE,rS]
 repeat (go_big_quiet_step ((go_at_call 177;exact aS.call (dU _ (aV.trans (aS.h _))))))
 refine f' ?_;rintro w2⟨⟨cj,eX⟩,aT⟩;obtain rfl:w2=cj:=aT;have df:=bm.kept eX;obtain⟨yK,yM,yL⟩:=df.q;go_wp2_with fail
 have Z:=(((df.ba 0 (ah (cS))).ba 1 (ah (eo))).ba 2 (ah (di))).cell;exact bI (v:=bj #[aF #[cS,eo,di],rc]) (by simp[results,results158,go_sem,Z]) rfl ⟨rfl,aV.trans eX|>.sc (by omega)|>.sc (by omega)|>.sc (by omega)⟩
def aik(o n:J)(dF bK:ak)(args:List bC)(E:dT)(w:ag)(a1:je w bK E)(a:bC)(bD:args=[a])(a7:ft w dF args)(aA:o=33)(hex:oi n E.tb=true):Calls prog 158 #[.agg #[o,n],dF,bK] w (hA (gd cz ⟨o,n⟩ args E) w):=by
 unfold hA;obtain⟨dm,aY,dx,a',dq,bu,fr,b4,e6,b_,rfl,ab,ad,ao,aR,bw⟩:=a1.open_;subst bD;obtain⟨x9,yN,rfl,-⟩:=a7.at_;obtain⟨b,off,rfl,af,bX,bQ,cx⟩:=a7.get (k:=0) rfl;obtain⟨k,T,rfl,lF,bT⟩:=Ap hex;obtain⟨fm,YH,rfl,jK,⟨t0,-⟩,⟨t1,-⟩,⟨t2,-⟩,⟨t3,-⟩,⟨t4,-⟩,⟨_,t5,oQ⟩⟩:=bw.get bT;obtain⟨x_,sV,XO,-,-,AE⟩:=oQ.at_;subst XO;have aX:=I (show gd cz ⟨o,k⟩ [a] E=(match T.rows.find? (wB E.dt a.n)with
  |none=>(v0,6)
  |some r=>(⟨T.cg,T.bK,r.n⟩,0)) by
  unfold gd;rw[aw (by simp only;omega),aw (by simp only;omega),aw (by simp only;omega),aw (by simp only;omega),aw (by simp only;omega),aw (by simp only;omega),aw (by simp only;omega),aP (by simp only;omega)];simp only[c7,bT,b9,iP]
  cases T.rows.find? (wB E.dt a.n)<;>rfl)
 obtain⟨R,aJ⟩:∃R,R=gd cz ⟨o,k⟩ [a] E:=⟨_,rfl⟩;rw[<-aJ]at aX⊢;clear aJ;obtain⟨⟨cS,eo,di⟩,rc⟩:=R;obtain⟨BK,BL,BM,BN,BO,gU,sS,hb,kl,PT,Iu,Iv,Iw,Ix,yH⟩:(o==1)=false/\(o==2)=false/\(o==3)=false/\(o==4)=false/\(o==5)=false/\(o==6)=false/\(o==7)=false/\(o==8)=false/\(o==9)=false/\(o==35)=false/\(o==36)=false/\(o==37)=false/\(o==38)=false/\(o==39)=false/\(o==33)=true:=by refine⟨?_,?_,?_,?_,?_,?_,?_,?_,?_,?_,?_,?_,?_,?_,?_⟩<;>(simp;omega)
 obtain⟨aM,dL,eY,cg,vt,rows⟩:=T;obtain⟨dD,e4,an⟩:=a;unfold g' at t0 t1 t2 t3 t4 t5;have dU:=I (λw1(h:Kept w w1)=>amq aM dL eY cg vt _ rows E.dt an w1 (oQ.kept oG.kept h));unfold B0 at dU;have bV:=abV (p:=wB E.dt an) rows [];clear ab ad ao aR bw a1 aA a7 hex bT;obtain⟨dt,ins,ds,ms,mt,tb⟩:=E;dsimp only at*;go_enter func158,ntmps158
 go_upto_region 1 with fail
 generalize aL:((w.alloc _).alloc _).alloc _=W at*;obtain⟨aV,bo,bh,bm⟩:=Kept.cv aL;clear aL;obtain⟨dX,cR⟩:=bo.p;obtain⟨dM,bq⟩:=bh.p;obtain⟨dQ,b5,zq⟩:=bm.q;have Ii:=aV.aI jK t0;have qx:=aV.aI jK t1;have pd:=aV.aI jK t2;have re:=aV.aI jK t3;have Ij:=aV.aI jK t4;have Ik:=aV.aI jK t5;have hE:=bG af aV.size;have acb:=bG jK aV.size;clear t0 t1 t2 t3 t4 t5;have hU:=I bm;go_upto_region 25 with fail
 have BT:=aB.new W 97 #[aM,dL,eY,cg,vt,.slice x_ rows sV];have ca:Kept w (W.alloc (.cells #[aM,dL,eY,cg,vt,.slice x_ rows sV] 97)):=aV.aZ;have dO:=bh.alloc (.cells #[aM,dL,eY,cg,vt,.slice x_ rows sV] 97);have fh:=bm.alloc (.cells #[aM,dL,eY,cg,vt,.slice x_ rows sV] 97);clear Ii qx pd re Ij Ik;generalize W.alloc (.cells #[aM,dL,eY,cg,vt,.slice x_ rows sV] 97)=dV at*;have lf:=aS.cell (bG af ca.size) (ca.aI af cx);have z0:=aS.cell BT.lt (BT.cell 0);have fL:=aS.cell BT.lt (BT.cell 1);have z2:=aS.cell BT.lt (BT.cell 2);have z3:=aS.cell BT.lt (BT.cell 3);have z4:=aS.cell BT.lt (BT.cell 4);have z5:=aS.cell BT.lt (BT.cell 5);have u0:=aS.cell dO.lt (dO.cell 0)
 (try simp only[vA,lT]at lf)
 clear bX bQ cx dX dM dQ zq cR bq b5 bo bh bm
 cases az:pX (wB dt an) rows 0
 case none=>
  rw[sB,az]at bV;have a1:=aX.out;simp only at bV;rw[bV]at a1;obtain⟨rfl,rfl,rfl,rfl⟩:=j2 a1;rw[az]at dU;unfold JK at dU;clear a1 bV az;refine nc (by kernel_rfl) (by kernel_rfl) ?_
  repeat (go_big_quiet_step ((go_at_call 174;exact aS.call (dU _ (ca.trans (aS.h _))))))
  refine f' ?_;rintro w2⟨⟨cj,eX⟩,aT⟩;obtain rfl:w2=cj:=aT;have df:=fh.kept eX;obtain⟨yK,yM,yL⟩:=df.q;go_wp2_with fail
  have Z:=(((df.ba 0 ()).ba 1 ()).ba 2 ()).cell;exact bI (v:= .tuple #[.agg #[(),(),()],.int .i64 6]) (by simp[results,results158,go_sem,Z]) rfl ⟨rfl,ca.trans eX|>.sc (by omega)|>.sc (by omega)|>.sc (by omega)⟩
 case some q=>
  rw[sB,az]at bV;obtain⟨r,pt,iL⟩:=bV;rw[qj]at pt;have a1:=aX.out;rw[iL]at a1;obtain⟨rfl,rfl,rfl,rfl⟩:=j2 a1;rw[az]at dU;unfold JK at dU;have wg:(q:J)<rows.length:=by have:=(b2 pt).1;omega
  obtain⟨gU,ata,rfl,hb6,RF⟩:=AE (by have:=(b2 pt).1;omega);obtain⟨-,-,-,-,⟨sr,-⟩⟩:=RF q r pt;unfold g' at sr;clear a1 az iL RF pt AE;refine nc (by kernel_rfl) (by kernel_rfl) ?_
  repeat (go_big_quiet_step ((go_at_call 174;exact aS.call (dU _ (ca.trans (aS.h _))))))
  refine f' ?_;rintro w2⟨⟨cj,eX⟩,aT⟩;obtain rfl:w2=cj:=aT;have c3:=ca.trans eX;have df:=fh.kept eX;have Ht:=BT.kept eX;have r4':=aS.cell (bG hb6 c3.size) (c3.aI hb6 sr);clear z0 fL z2 z3 z4 z5 lf u0 sr;have jP:=aS.cell Ht.lt (Ht.cell 3);have pF:=aS.cell Ht.lt (Ht.cell 4);have vz:=aS.cell Ht.lt (Ht.cell 5);go_upto_region 28 with fail
  refine wH 13 (by kernel_rfl) (by kernel_rfl) ?_;simp only[sz,q0,vE,rS]
  repeat (go_big_quiet_step (fail))
  refine f' ?_;rintro w2⟨⟨cj,eX⟩,aT⟩;obtain rfl:w2=cj:=aT;have qo:=df.kept eX;obtain⟨e2c,e2l,e2f⟩:=qo.q;go_wp2_with fail
  have Z:=(((qo.ba 0 (.int .i64 (cS))).ba 1 (.int .i64 (eo))).ba 2 (.int .i64 (r.n))).cell;exact bI (v:= .tuple #[.agg #[cS,eo,r.n],()]) (by simp[results,results158,go_sem,Z]) rfl ⟨rfl,c3.trans eX|>.sc (by omega)|>.sc (by omega)|>.sc (by omega)⟩
def ail(o n:J)(dF bK:ak)(args:List bC)(E:dT)(w:ag)(a1:je w bK E)(a:bC)(bD:args=[a])(a7:ft w dF args)(aA:o=34)(aH:0<=n/\n<=9223372036854775807)(hn8:n% 8<=5)(hex:n/8<E.tb.length)(ph: -1000000000000000<=a.n/\a.n<=1000000000000000)(hty:∀T,E.tb[(n/8).toNat]?=some T->T.dL=3/\T.eY=0/\T.cg=4/\T.bK=0):bg 158 #[aF #[o,n],dF,bK] w (hA (gd cz ⟨o,n⟩ args E) w):=by
 unfold hA;obtain⟨dm,aY,dx,a',dq,bu,fr,b4,e6,b_,rfl,ab,ad,ao,aR,bw⟩:=a1.open_;subst bD;obtain⟨x9,yN,rfl,-⟩:=a7.at_;obtain⟨b,off,rfl,af,bX,bQ,cx⟩:=a7.get (k:=0) rfl;obtain⟨k,T,Co,lF,bT⟩:=Ap (xs:=E.tb) (n:=n/8) (by unfold oi;exact jR ⟨by omega,hex⟩);have acL:=hty T (by rw[Co];exact bT);obtain⟨fm,YH,rfl,jK,⟨t0,-⟩,⟨t1,-⟩,⟨t2,-⟩,⟨t3,-⟩,⟨t4,-⟩,⟨_,t5,oQ⟩⟩:=bw.get bT;obtain⟨x_,sV,XO,-⟩:=oQ.at_;subst XO;obtain⟨m,hm⟩:∃m,m=n% 8:=⟨_,rfl⟩;have aX:=I (show gd cz ⟨o,n⟩ [a] E=(⟨3,0,(yG T E.dt a.n m).1⟩,(yG T E.dt a.n m).2) by
  unfold gd;rw[aw (by simp only;omega),aw (by simp only;omega),aw (by simp only;omega),aw (by simp only;omega),aw (by simp only;omega),aw (by simp only;omega),aw (by simp only;omega),aw (by simp only;omega),aP (by simp only;omega)];simp only[Co,c7,bT,b9,iP,<-hm];rfl)
 obtain⟨R,aJ⟩:∃R,R=gd cz ⟨o,n⟩ [a] E:=⟨_,rfl⟩;rw[<-aJ]at aX⊢;clear aJ;obtain⟨⟨cS,eo,di⟩,rc⟩:=R;obtain⟨BK,BL,BM,BN,BO,gU,sS,hb,kl,PT,Iu,Iv,Iw,Ix,FN,yH⟩:(o==1)=false/\(o==2)=false/\(o==3)=false/\(o==4)=false/\(o==5)=false/\(o==6)=false/\(o==7)=false/\(o==8)=false/\(o==9)=false/\(o==35)=false/\(o==36)=false/\(o==37)=false/\(o==38)=false/\(o==39)=false/\(o==33)=false/\(o==34)=true:=by refine⟨?_,?_,?_,?_,?_,?_,?_,?_,?_,?_,?_,?_,?_,?_,?_,?_⟩<;>(simp;omega)
 have dU:=I (λw1(h:Kept w w1)=>ahE T.aM _ T.rows E.dt a.n m w1 (oQ.kept oG.kept h) ⟨by omega,by omega⟩ ph T rfl);obtain⟨z,bP⟩:∃z,z=yG T E.dt a.n m:=⟨_,rfl⟩;rw[<-bP]at dU aX;obtain⟨fL,z2⟩:=z;obtain⟨rfl,rfl,rfl,rfl⟩:=j2 aX;obtain⟨aM,dL,eY,cg,vt,rows⟩:=T;dsimp only at acL;obtain⟨rfl,rfl,rfl,rfl⟩:=acL;obtain⟨dD,e4,an⟩:=a;unfold g' at t0 t1 t2 t3 t4 t5;have htd:n.tdiv 8=k:=by rw[Hh aH.1];exact Co
 have htm:n.tmod 8=m:=by rw[OF aH.1];exact hm.symm
 obtain⟨kI,e9⟩:=aH;have Gq:(k:J)<=n:=by omega
 clear ab ad ao aR bw a1 aA a7 hex bT hty bP hm hn8 aX Co;obtain⟨dt,ins,ds,ms,mt,tb⟩:=E;dsimp only at*;go_enter func158,ntmps158
 go_upto_region 30 with fail
 generalize aL:((w.alloc _).alloc _).alloc _=W at*;obtain⟨aV,bo,bh,bm⟩:=Kept.cv aL;clear aL;obtain⟨dX,cR⟩:=bo.p;obtain⟨dM,bq⟩:=bh.p;obtain⟨dQ,b5,zq⟩:=bm.q;have Ii:=aS.cell (bG jK aV.size) (aV.aI jK t0);have qx:=aS.cell (bG jK aV.size) (aV.aI jK t1);have pd:=aS.cell (bG jK aV.size) (aV.aI jK t2);have re:=aS.cell (bG jK aV.size) (aV.aI jK t3);have Ij:=aS.cell (bG jK aV.size) (aV.aI jK t4);have Ik:=aS.cell (bG jK aV.size) (aV.aI jK t5);have lf:=aS.cell (bG af aV.size) (aV.aI af cx);have z1':=aS.cell bo.lt (bo.cell 1);have u0:=aS.cell bh.lt (bh.cell 0);have u5:=aS.cell bh.lt (bh.cell 5);have hwr:wrap64 (k:J)=k:=by unfold wrap64;omega
 have asZ:IntKind.i64.wrap (k:J)=k:=by obtain⟨q,_,aQ,a_⟩:=C9 (k:J);rw[aQ,<-a_,hwr]
 (try simp only[vA,lT]at lf)
 clear bX bQ cx dX dM dQ zq cR bq b5 t0 t1 t2 t3 t4 t5;refine nc (by kernel_rfl) (by kernel_rfl) ?_
 repeat (go_big_quiet_step ((go_at_call 175;exact aS.call (dU _ (aV.trans (aS.h _))))))
 refine f' ?_;rintro w2⟨⟨cj,eX⟩,aT⟩;obtain rfl:w2=cj:=aT;have df:=bm.kept eX;obtain⟨yK,yM,yL⟩:=df.q;clear Ii qx pd re Ij Ik lf z1' u0 u5;go_wp2_with fail
 have Z:=(((df.ba 0 (ah (3))).ba 1 ()).ba 2 (ah (di))).cell;exact bI (v:=bj #[aF #[ah 3,(),di],rc]) (by simp[results,results158,go_sem,Z]) rfl ⟨rfl,aV.trans eX|>.sc (by omega)|>.sc (by omega)|>.sc (by omega)⟩
end Go.Proofs.YtilhklpfkgbikaaGreatDoor
