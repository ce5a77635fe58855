import Derived.Test.YtilhklpfkgbikaaGreatDoorI
import Derived.Test.YtilhklpfkgbikaaGreatDoorJ
import Derived.Test.YtilhklpfkgbikaaGreatDoorK
import Derived.Test.YtilhklpfkgbikaaGreatDoorM
import Derived.Handy
set_option linter.all false
namespace Go.Proofs.YtilhklpfkgbikaaGreatDoor
open Go.RowKit Go.Proofs.Tryz
set_option maxRecDepth 100000
set_option maxHeartbeats 8000000
def je.open_{w:ag}{v:ak}{E:dT}(h:je w v E):∃dm aY dx a' dq bu fr b4 e6 b_,v=aF #[E.dt,ae dm E.ins aY,ae dx E.ds a',ae dq E.ms bu,ae fr E.mt b4,ae e6 E.tb b_]/\
  ft w (ae dm E.ins aY) E.ins/\ft w (ae dx E.ds a') E.ds/\kh w (ae dq E.ms bu) E.ms/\mm w (ae fr E.mt b4) E.mt/\c0 6 ld w (ae e6 E.tb b_) E.tb:=by
 obtain⟨b7,dy,c1,cM,bv,rfl,ab,ad,ao,aR,bw⟩:=h;obtain⟨dm,aY,rfl,-⟩:=id ab;obtain⟨dx,a',rfl,-⟩:=id ad;obtain⟨dq,bu,rfl,-⟩:=id ao;obtain⟨fr,b4,rfl,-⟩:=id aR;obtain⟨e6,b_,rfl,-⟩:=id bw;exact⟨dm,aY,dx,a',dq,bu,fr,b4,e6,b_,rfl,ab,ad,ao,aR,bw⟩
def ft.get{w:ag}{A:gu}{n c:aa}{xs:List bC}(h:ft w (ae A n c) xs){k:aa}{x:bC}(ai:xs[k]?=some x):∃b off,A=some ⟨b,off,none⟩/\b<w.heap.size/\aU w ⟨b,off+k*3,none⟩=some (ah x.k)/\aU w ⟨b,off+k*3+1,none⟩=some (ah x.e)/\aU w ⟨b,off+k*3+2,none⟩=some (ah x.n):=by
 obtain⟨pH,fF,aK,aj⟩:=h.at_;obtain⟨rfl,-,-⟩:=Tr aK;obtain⟨b,off,a7,af,aq⟩:=aj (by have:=(b2 ai).1;omega);obtain⟨bX,bQ,cx⟩:=aq k x ai;exact⟨b,off,a7,af,bX,bQ,cx⟩
def c0.get{α:Type}{k:aa}{P:ag->aa->aa->α->Prop}{w:ag}{A:gu}{n c:aa}{xs:List α}(h:c0 k P w (ae A n c) xs){i:aa}{x:α}(aD:xs[i]?=some x):∃b off,A=some ⟨b,off,none⟩/\b<w.heap.size/\P w b (off+i*k) x:=by
 obtain⟨pH,fF,aK,_,_,aj⟩:=h;obtain⟨rfl,-,-⟩:=Tr aK;obtain⟨b,off,a7,af,aq⟩:=aj (by have:=(b2 aD).1;omega);exact⟨b,off,a7,af,aq i x aD⟩
def mm.get{w:ag}{A:gu}{n c:aa}{xs:List dh}(h:mm w (ae A n c) xs){k:aa}{x:dh}(ai:xs[k]?=some x):∃b off,A=some ⟨b,off,none⟩/\b<w.heap.size/\aU w ⟨b,off+k*2,none⟩=some (ah x.k)/\aU w ⟨b,off+k*2+1,none⟩=some (ah x.e):=by
 obtain⟨pH,fF,aK,aj⟩:=h.at_;obtain⟨rfl,-,-⟩:=Tr aK;obtain⟨b,off,a7,af,aq⟩:=aj (by have:=(b2 ai).1;omega);obtain⟨bX,bQ⟩:=aq k x ai;exact⟨b,off,a7,af,bX,bQ⟩
def Ap{α:Type}{xs:List α}{n:J}(h:oi n xs=true):∃(k:aa)(x:α),n=k/\(k:J)<xs.length/\xs[k]?=some x:=by
 unfold oi at h;simp only[gg]at h;have ai:n.toNat<xs.length:=by omega
 exact⟨n.toNat,xs[n.toNat],by omega,by omega,bn ai⟩
def rh(b:Bool)(w:ag)(e:Ending)(w':ag):Prop:=e=bL (bR b)/\Kept w w'
def agZ(o n:J)(dF bK:ak)(args:List bC)(E:dT)(w:ag)(a1:je w bK E)(aA:o=7)(hex:oi n E.ins=true):bg 157 #[aF #[o,n],dF,bK] w (rh (ix ⟨o,n⟩ args E) w):=by
 unfold rh;obtain⟨dm,aY,dx,a',dq,bu,fr,b4,e6,b_,rfl,ab,ad,ao,aR,bw⟩:=a1.open_;obtain⟨k,x,rfl,lF,aj⟩:=Ap hex;obtain⟨b,off,rfl,af,bX,bQ,cx⟩:=ab.get aj;have aX:=I (show ix ⟨o,k⟩ args E=iv x by unfold ix;simp[aj,aA]);obtain⟨R,aJ⟩:∃R,R=ix ⟨o,k⟩ args E:=⟨_,rfl⟩;rw[<-aJ]at aX⊢;clear aJ;have yH:(o==7)=true:=by simp;omega
 clear hex aj ab ad ao aR bw a1 aA;obtain⟨ep,fj,iO⟩:=x;have dU:=I (λw=>EC ep fj iO w);obtain⟨dt,ins,ds,ms,mt,tb⟩:=E;dsimp only at*;go_enter func157,ntmps157
 go_upto_region 1 with fail
 generalize aL:(w.alloc _).alloc _=W at*;obtain⟨aV,bo,bh⟩:=Kept.a_ aL;clear aL;obtain⟨dX,cR⟩:=bo.p;obtain⟨dM,bq⟩:=bh.p;have iI:=aV.aI af bX;have kk:=aV.aI af bQ;have lf:=aV.aI af cx;have hE:=bG af aV.size;clear bX bQ cx;go_wp2_with (go_at_call 159;refine (dU _).mono ?_;rintro y w1⟨rfl,au⟩)
 go_ret;exact⟨fG aX.symm,aV.trans au⟩
def ag0(o n:J)(dF bK:ak)(args:List bC)(E:dT)(w:ag)(a1:je w bK E)(aA:o=8)(hex:oi n E.ds=true):bg 157 #[aF #[o,n],dF,bK] w (rh (ix ⟨o,n⟩ args E) w):=by
 unfold rh;obtain⟨dm,aY,dx,a',dq,bu,fr,b4,e6,b_,rfl,ab,ad,ao,aR,bw⟩:=a1.open_;obtain⟨k,x,rfl,lF,aj⟩:=Ap hex;obtain⟨b,off,rfl,af,bX,bQ,cx⟩:=ad.get aj;have aX:=I (show ix ⟨o,k⟩ args E=iv x by unfold ix;simp[aj,aA]);obtain⟨R,aJ⟩:∃R,R=ix ⟨o,k⟩ args E:=⟨_,rfl⟩;rw[<-aJ]at aX⊢;clear aJ;have yH:(o==8)=true:=by simp;omega
 have sS:(o==7)=false:=by simp;omega
 clear hex aj ab ad ao aR bw a1 aA;obtain⟨ep,fj,iO⟩:=x;have dU:=I (λw=>EC ep fj iO w);obtain⟨dt,ins,ds,ms,mt,tb⟩:=E;dsimp only at*;go_enter func157,ntmps157
 go_upto_region 1 with fail
 generalize aL:(w.alloc _).alloc _=W at*;obtain⟨aV,bo,bh⟩:=Kept.a_ aL;clear aL;obtain⟨dX,cR⟩:=bo.p;obtain⟨dM,bq⟩:=bh.p;have iI:=aV.aI af bX;have kk:=aV.aI af bQ;have lf:=aV.aI af cx;have hE:=bG af aV.size;clear bX bQ cx;go_wp2_with (go_at_call 159;refine (dU _).mono ?_;rintro y w1⟨rfl,au⟩)
 go_ret;exact⟨fG aX.symm,aV.trans au⟩
def ag1(o n:J)(dF bK:ak)(args:List bC)(E:dT)(w:ag)(a1:je w bK E)(aA:o=36\/o=37\/o=38\/o=39)(hex:oi n E.mt=true):bg 157 #[aF #[o,n],dF,bK] w (rh (ix ⟨o,n⟩ args E) w):=by
 unfold rh;obtain⟨dm,aY,dx,a',dq,bu,fr,b4,e6,b_,rfl,ab,ad,ao,aR,bw⟩:=a1.open_;obtain⟨k,x,rfl,lF,aj⟩:=Ap hex;obtain⟨b,off,rfl,af,bX,bQ⟩:=aR.get aj;have aX:=I (show ix ⟨o,k⟩ args E=NK o x by
  unfold ix;rw[aw (by simp only;omega),aw (by simp only;omega),aw (by simp only;omega),aw (by simp only;omega),aP (by simp only;omega)];simp only[c7,aj,b9])
 obtain⟨R,aJ⟩:∃R,R=ix ⟨o,k⟩ args E:=⟨_,rfl⟩;rw[<-aJ]at aX⊢;clear aJ;obtain⟨sS,hb,FN,Lz⟩:(o==7)=false/\(o==8)=false/\(o==33)=false/\(o==34)=false:=by refine⟨?_,?_,?_,?_⟩<;>(simp;omega)
 obtain⟨ep,fj⟩:=x;have dU:=I (λw=>amC o ep fj w);obtain⟨q,az⟩:∃q,q=NK o ⟨ep,fj⟩:=⟨_,rfl⟩;rw[<-az]at dU aX;have Gv:(o==36)=true\/((o==36)=false/\(o==37)=true)\/((o==36)=false/\(o==37)=false/\(o==38)=true)\/((o==36)=false/\(o==37)=false/\(o==38)=false/\(o==39)=true):=by simp;omega
 clear hex aj ab ad ao aR bw a1 az aA;obtain⟨dt,ins,ds,ms,mt,tb⟩:=E;dsimp only at*;rcases Gv with bd|⟨bd,a8⟩|⟨bd,a8,dI⟩|⟨bd,a8,dI,dk⟩
 all_goals
  go_enter func157,ntmps157
  go_upto_region 16 with fail
  generalize aL:(w.alloc _).alloc _=W at*;obtain⟨aV,bo,bh⟩:=Kept.a_ aL;clear aL;obtain⟨dX,cR⟩:=bo.p;obtain⟨dM,bq⟩:=bh.p;have z0:=aS.cell bo.lt (bo.cell 0);have fL:=aS.cell bo.lt (bo.cell 1);have z4:=aS.cell bh.lt (bh.cell 4);have iI:=aS.cell (bG af aV.size) (aV.aI af bX);have kk:=aS.cell (bG af aV.size) (aV.aI af bQ);clear bX bQ;refine nc (by kernel_rfl) (by kernel_rfl) ?_
  repeat (go_big_quiet_step ((go_at_call 169;exact aS.call (dU _))))
  refine f' ?_;rintro w2⟨⟨cj,eX⟩,aT⟩;obtain rfl:w2=cj:=aT;go_wp2_with fail
  go_ret;exact⟨fG aX.symm,aV.trans eX⟩
def PQ(o n:J)(dF bK:ak)(args:List bC)(E:dT)(w:ag)(a1:je w bK E)(a:bC)(bD:args=[a])(a7:ft w dF args)(aA:o=10\/o=25\/o=31\/o=32):bg 157 #[aF #[o,n],dF,bK] w (rh (ix ⟨o,n⟩ args E) w):=by
 unfold rh;obtain⟨dm,aY,dx,a',dq,bu,fr,b4,e6,b_,rfl,ab,ad,ao,aR,bw⟩:=a1.open_;subst bD;obtain⟨x9,yN,rfl,-⟩:=a7.at_;obtain⟨b,off,rfl,af,bX,bQ,cx⟩:=a7.get (k:=0) rfl;have aX:=I (show ix ⟨o,n⟩ [a] E=Ol o a.k by
  unfold ix;rw[aw (by simp only;omega),aw (by simp only;omega),aw (by simp only;omega),aw (by simp only;omega),aw (by simp only;omega)])
 obtain⟨R,aJ⟩:∃R,R=ix ⟨o,n⟩ [a] E:=⟨_,rfl⟩;rw[<-aJ]at aX⊢;clear aJ;obtain⟨sS,hb,FN,Lz,Iu,Iv,Iw,Ix⟩:(o==7)=false/\(o==8)=false/\(o==33)=false/\(o==34)=false/\(o==36)=false/\(o==37)=false/\(o==38)=false/\(o==39)=false:=by refine⟨?_,?_,?_,?_,?_,?_,?_,?_⟩<;>(simp;omega)
 have dU:=I (λw=>aql o a.k w);obtain⟨q,az⟩:∃q,q=Ol o a.k:=⟨_,rfl⟩;rw[<-az]at dU aX;clear ab ad ao aR bw a1 az aA a7;obtain⟨dt,ins,ds,ms,mt,tb⟩:=E;dsimp only at*;go_enter func157,ntmps157
 go_upto_region 19 with fail
 generalize aL:(w.alloc _).alloc _=W at*;obtain⟨aV,bo,bh⟩:=Kept.a_ aL;clear aL;obtain⟨dX,cR⟩:=bo.p;obtain⟨dM,bq⟩:=bh.p;have z0:=aS.cell bo.lt (bo.cell 0);have iI:=aS.cell (bG af aV.size) (aV.aI af bX);clear bX bQ cx
 (try simp only[vA,lT]at iI)
 refine nc (by kernel_rfl) (by kernel_rfl) ?_
 repeat (go_big_quiet_step ((go_at_call 170;exact aS.pure (dU _))))
 refine f' ?_;rintro w2⟨⟨cj,eX⟩,aT⟩;obtain rfl:w2=cj:=aT;go_wp2_with fail
 go_ret;exact⟨fG aX.symm,aV.trans eX⟩
def agW(o n:J)(dF bK:ak)(args:List bC)(E:dT)(w:ag)(a1:je w bK E)(a b:bC)(bD:args=[a,b])(a7:ft w dF args)(aA:(11<=o/\o<=22)\/(27<=o/\o<=30)):bg 157 #[aF #[o,n],dF,bK] w (rh (ix ⟨o,n⟩ args E) w):=by
 unfold rh;obtain⟨dm,aY,dx,a',dq,bu,fr,b4,e6,b_,rfl,ab,ad,ao,aR,bw⟩:=a1.open_;subst bD;obtain⟨x9,yN,rfl,-⟩:=a7.at_;obtain⟨pS,off,rfl,af,bX,bQ,cx⟩:=a7.get (k:=0) rfl;obtain⟨j7,adH,he,-,eU,dr,eV⟩:=a7.get (k:=1) rfl;obtain⟨rfl,rfl,-⟩:=Addr.mk.inj (cJ he);have aX:=I (show ix ⟨o,n⟩ [a,b] E=yD o a b by
  unfold ix;rw[aw (by simp only;omega),aw (by simp only;omega),aw (by simp only;omega),aw (by simp only;omega),aw (by simp only;omega)])
 obtain⟨R,aJ⟩:∃R,R=ix ⟨o,n⟩ [a,b] E:=⟨_,rfl⟩;rw[<-aJ]at aX⊢;clear aJ;obtain⟨sS,hb,FN,Lz,Iu,Iv,Iw,Ix⟩:(o==7)=false/\(o==8)=false/\(o==33)=false/\(o==34)=false/\(o==36)=false/\(o==37)=false/\(o==38)=false/\(o==39)=false:=by refine⟨?_,?_,?_,?_,?_,?_,?_,?_⟩<;>(simp;omega)
 have dU:=I (λw=>ahu o a.k a.e a.n b.k b.e b.n (by omega) w);obtain⟨q,az⟩:∃q,q=yD o a b:=⟨_,rfl⟩;rw[<-az]at aX;rw[show yD o ⟨a.k,a.e,a.n⟩ ⟨b.k,b.e,b.n⟩=q from az.symm]at dU;clear ab ad ao aR bw a1 az aA a7 he;obtain⟨dt,ins,ds,ms,mt,tb⟩:=E;dsimp only at*;go_enter func157,ntmps157
 go_upto_region 21 with fail
 generalize aL:(w.alloc _).alloc _=W at*;obtain⟨aV,bo,bh⟩:=Kept.a_ aL;clear aL;obtain⟨dX,cR⟩:=bo.p;obtain⟨dM,bq⟩:=bh.p;have z0:=aS.cell bo.lt (bo.cell 0);have iI:=aS.cell (bG af aV.size) (aV.aI af bX);have kk:=aS.cell (bG af aV.size) (aV.aI af bQ);have lf:=aS.cell (bG af aV.size) (aV.aI af cx);have Ab:=aS.cell (bG af aV.size) (aV.aI af eU);have FI:=aS.cell (bG af aV.size) (aV.aI af dr);have Ls:=aS.cell (bG af aV.size) (aV.aI af eV);clear bX bQ cx eU dr eV
 (try simp only[vA,Nat.one_mul,lT]at iI kk lf Ab FI Ls)
 refine nc (by kernel_rfl) (by kernel_rfl) ?_
 repeat (go_big_quiet_step ((go_at_call 171;exact aS.call (dU _))))
 refine f' ?_;rintro w2⟨⟨cj,eX⟩,aT⟩;obtain rfl:w2=cj:=aT;go_wp2_with fail
 go_ret;exact⟨fG aX.symm,aV.trans eX⟩
def aaI(o n:J)(dF bK:ak)(args:List bC)(E:dT)(w:ag)(a1:je w bK E)(bD:args=[])(a7:ft w dF args)(aA:(1<=o/\o<=6)\/o=9\/o=35):bg 157 #[aF #[o,n],dF,bK] w (rh (ix ⟨o,n⟩ args E) w):=by
 unfold rh;obtain⟨dm,aY,dx,a',dq,bu,fr,b4,e6,b_,rfl,ab,ad,ao,aR,bw⟩:=a1.open_;subst bD;obtain⟨x9,yN,rfl,-⟩:=a7.at_;have aX:=I (show ix ⟨o,n⟩ [] E=true by
  unfold ix;rw[aw (by simp only;omega),aw (by simp only;omega),aw (by simp only;omega),aw (by simp only;omega),aw (by simp only;omega)])
 obtain⟨R,aJ⟩:∃R,R=ix ⟨o,n⟩ [] E:=⟨_,rfl⟩;rw[<-aJ]at aX⊢;clear aJ;obtain⟨sS,hb,FN,Lz,Iu,Iv,Iw,Ix⟩:(o==7)=false/\(o==8)=false/\(o==33)=false/\(o==34)=false/\(o==36)=false/\(o==37)=false/\(o==38)=false/\(o==39)=false:=by refine⟨?_,?_,?_,?_,?_,?_,?_,?_⟩<;>(simp;omega)
 clear ab ad ao aR bw a1 aA a7;go_enter func157,ntmps157
 go_wp2_with fail
 go_ret;exact⟨fG aX.symm,(aG _).aZ.aZ⟩
def agY(o n:J)(dF bK:ak)(args:List bC)(E:dT)(w:ag)(a1:je w bK E)(a:bC)(bD:args=[a])(a7:ft w dF args)(aA:o=34)(aH:0<=n/\n<=9223372036854775807)(hex:n/8<E.tb.length):bg 157 #[aF #[o,n],dF,bK] w (rh (ix ⟨o,n⟩ args E) w):=by
 unfold rh;obtain⟨dm,aY,dx,a',dq,bu,fr,b4,e6,b_,rfl,ab,ad,ao,aR,bw⟩:=a1.open_;subst bD;obtain⟨x9,yN,rfl,-⟩:=a7.at_;obtain⟨b,off,rfl,af,bX,bQ,cx⟩:=a7.get (k:=0) rfl;obtain⟨k,T,Co,lF,bT⟩:=Ap (xs:=E.tb) (n:=n/8) (by unfold oi;exact jR ⟨by omega,hex⟩);obtain⟨fm,YH,rfl,jK,⟨t0,-⟩,⟨t1,-⟩,⟨t2,-⟩,⟨t3,-⟩,⟨t4,-⟩,⟨_,t5,oQ⟩⟩:=bw.get bT;obtain⟨x_,sV,rfl,-⟩:=oQ.at_;have aX:=I (show ix ⟨o,n⟩ [a] E=(decide (a.k=3)&&(decide (T.dL=3/\T.eY=0)&&decide (T.cg=4/\T.bK=0))) by
  unfold ix;rw[aw (by simp only;omega),aw (by simp only;omega),aw (by simp only;omega),aP (by simp only;omega)];simp[Co,bT])
 obtain⟨R,aJ⟩:∃R,R=ix ⟨o,n⟩ [a] E:=⟨_,rfl⟩;rw[<-aJ]at aX⊢;clear aJ;obtain⟨sS,hb,FN,yH⟩:(o==7)=false/\(o==8)=false/\(o==33)=false/\(o==34)=true:=by refine⟨?_,?_,?_,?_⟩<;>(simp;omega)
 obtain⟨aM,dL,eY,cg,vt,rows⟩:=T;obtain⟨dD,e4,an⟩:=a;unfold g' at t0 t1 t2 t3 t4 t5;have htd:n.tdiv 8=k:=by rw[Hh aH.1];exact Co
 obtain⟨kI,e9⟩:=aH;clear ab ad ao aR bw a1 aA a7 hex bT bQ cx oQ;obtain⟨dt,ins,ds,ms,mt,tb⟩:=E;dsimp only at*;go_enter func157,ntmps157
 go_upto_region 1 with fail
 generalize aL:(w.alloc _).alloc _=W at*;obtain⟨aV,bo,bh⟩:=Kept.a_ aL;clear aL;obtain⟨dX,cR⟩:=bo.p;obtain⟨dM,bq⟩:=bh.p;have iI:=aV.aI af bX;have Ii:=aV.aI jK t0;have qx:=aV.aI jK t1;have pd:=aV.aI jK t2;have re:=aV.aI jK t3;have Ij:=aV.aI jK t4;have Ik:=aV.aI jK t5;have hE:=bG af aV.size;have acb:=bG jK aV.size;clear bX t0 t1 t2 t3 t4 t5
 (try simp only[vA,lT]at iI)
 by_cases aQ:dD=3
 case neg=>
  have f1:(dD==3)=false:=by simpa using aQ
  have jH:=I (show R=false by rw[aX,jC aQ];rfl);go_wp2_with fail
  go_ret;exact⟨fG jH.symm,aV.aZ⟩
 subst aQ;by_cases a_:dL=3/\eY=0
 case neg=>
  have jH:=I (show R=false by rw[aX,jC a_];rfl);rcases (show¬dL=3\/(dL=3/\¬eY=0) by omega)with e|⟨rfl,e⟩
  all_goals
   clear a_;go_wp2_with fail
   go_ret;exact⟨fG jH.symm,aV.aZ⟩
 obtain⟨rfl,rfl⟩:=a_;by_cases cv:cg=4/\vt=0
 case neg=>
  have jH:=I (show R=false by rw[aX,jC cv];rfl);rcases (show¬cg=4\/(cg=4/\¬vt=0) by omega)with e|⟨rfl,e⟩
  all_goals
   clear cv;go_wp2_with fail
   go_ret;exact⟨fG jH.symm,aV.aZ⟩
 obtain⟨rfl,rfl⟩:=cv;have jH:=I (show R=true by rw[aX];rfl);go_wp2_with fail
 go_ret;exact⟨fG jH.symm,aV.aZ⟩
def agX(o n:J)(dF bK:ak)(args:List bC)(E:dT)(w:ag)(a1:je w bK E)(a:bC)(bD:args=[a])(a7:ft w dF args)(aA:o=33)(hex:oi n E.tb=true):bg 157 #[aF #[o,n],dF,bK] w (rh (ix ⟨o,n⟩ args E) w):=by
 unfold rh;obtain⟨dm,aY,dx,a',dq,bu,fr,b4,e6,b_,rfl,ab,ad,ao,aR,bw⟩:=a1.open_;subst bD;obtain⟨x9,yN,rfl,-⟩:=a7.at_;obtain⟨b,off,rfl,af,bX,bQ,cx⟩:=a7.get (k:=0) rfl;obtain⟨k,T,rfl,lF,bT⟩:=Ap hex;obtain⟨fm,YH,rfl,jK,⟨t0,-⟩,⟨t1,-⟩,⟨t2,-⟩,⟨t3,-⟩,⟨t4,-⟩,⟨_,t5,oQ⟩⟩:=bw.get bT;obtain⟨x_,sV,rfl,-⟩:=oQ.at_;have aX:=I (show ix ⟨o,k⟩ [a] E=(xq a T.dL T.eY&&(decide (1<=T.cg)&&decide (T.cg<=6))) by
  unfold ix;rw[aw (by simp only;omega),aw (by simp only;omega),aP (by simp only;omega)];simp[bT])
 obtain⟨R,aJ⟩:∃R,R=ix ⟨o,k⟩ [a] E:=⟨_,rfl⟩;rw[<-aJ]at aX⊢;clear aJ;obtain⟨sS,hb,yH⟩:(o==7)=false/\(o==8)=false/\(o==33)=true:=by refine⟨?_,?_,?_⟩<;>(simp;omega)
 obtain⟨aM,dL,eY,cg,vt,rows⟩:=T;obtain⟨dD,e4,an⟩:=a;unfold g' at t0 t1 t2 t3 t4 t5;have dU:=I (λw=>aca dD e4 an dL eY w);obtain⟨q,az⟩:∃q,q=xq ⟨dD,e4,an⟩ dL eY:=⟨_,rfl⟩;rw[<-az]at dU;rw[show xq ⟨dD,e4,an⟩ dL eY=q from az.symm]at aX;clear ab ad ao aR bw a1 aA a7 hex bT az oQ;obtain⟨dt,ins,ds,ms,mt,tb⟩:=E;dsimp only at*;go_enter func157,ntmps157
 go_upto_region 1 with fail
 generalize aL:(w.alloc _).alloc _=W at*;obtain⟨aV,bo,bh⟩:=Kept.a_ aL;clear aL;obtain⟨dX,cR⟩:=bo.p;obtain⟨dM,bq⟩:=bh.p;have Ii:=aV.aI jK t0;have qx:=aV.aI jK t1;have pd:=aV.aI jK t2;have re:=aV.aI jK t3;have Ij:=aV.aI jK t4;have Ik:=aV.aI jK t5;have hE:=bG af aV.size;have acb:=bG jK aV.size;clear t0 t1 t2 t3 t4 t5;go_upto_region 8 with fail
 have BT:=aB.new W 97 #[aM,dL,eY,cg,vt,ae x_ rows sV];have ca:Kept w (W.alloc (.cells #[aM,dL,eY,cg,vt,ae x_ rows sV] 97)):=aV.aZ;generalize W.alloc (.cells #[aM,dL,eY,cg,vt,ae x_ rows sV] 97)=dV at*;have iI:=aS.cell (bG af ca.size) (ca.aI af bX);have kk:=aS.cell (bG af ca.size) (ca.aI af bQ);have lf:=aS.cell (bG af ca.size) (ca.aI af cx);have fL:=aS.cell BT.lt (BT.cell 1);have z2:=aS.cell BT.lt (BT.cell 2);have z3:=aS.cell BT.lt (BT.cell 3);clear bX bQ cx Ii qx pd re Ij Ik
 (try simp only[vA,lT]at iI kk lf)
 have hR:q=false\/(q=true/\decide (1<=cg)=false)\/(q=true/\decide (1<=cg)=true):=by cases q<;>cases decide (1<=cg)<;>simp
 rcases hR with rfl|⟨rfl,aK⟩|⟨rfl,aK⟩
 all_goals
  refine nc (by kernel_rfl) (by kernel_rfl) ?_
  repeat (go_big_quiet_step ((go_at_call 168;exact aS.call (dU _))))
  refine f' ?_;rintro w2⟨⟨cj,eX⟩,aT⟩;obtain rfl:w2=cj:=aT;go_wp2_with fail
  go_ret;exact⟨fG (by rw[aX];first|rfl|(rw[aK];rfl)),ca.trans eX⟩
def akk(g cap n:aa)(i j:aa)(a b:J)(w:ag)(aD:i<n)(ay:j<n)(al:g<w)(bD:aU w (g,i)=some (ah a))(af:aU w (g,j)=some (ah b)):
  bg 245 #[ae (some (g,0)) n cap,i,j] w λe w'=>e=bL (bR (decide (a<b)))/\Kept w w':=by
 have v_:(i:J)<n:=by omega
 have pn:(j:J)<n:=by omega
 have Ny:=aS.cell al bD;have Ek:=aS.cell al af;go_enter func245,ntmps245
 go_wp2
 refine nc (by kernel_rfl) (by kernel_rfl) ?_
 repeat (go_big_quiet_step (fail))
 refine f' ?_;rintro _⟨⟨cj,aj⟩,rfl⟩;go_wp2_with fail
 go_ret;exact⟨rfl,aj⟩
def hlen(A:gu)(cap n:aa)(w:ag):bg 90 #[ae A n cap] w λe w'=>e=bL n/\w=w':=by
 go_enter func90,ntmps90
 go_wp2
 go_ret;exact⟨rfl,rfl⟩
def ak6(g cap n:aa)(i j:aa)(cur:ho)(a b:J)(w:ag)(aD:i<n)(ay:j<n)(bc:aB w g 3 cur)(bD:cur[i]?=some (ah a))(af:cur[j]?=some (ah b)):
  bg 248 #[ae (some (g,0)) n cap,i,j] w λe w'=>e=bL (bj #[])/\aB w' g 3 ((cur.setIfInBounds i b).setIfInBounds j a)/\w.grownBy w' (some g):=by
 have v_:(i:J)<n:=by omega
 have pn:(j:J)<n:=by omega
 have al:=bc.lt;have Ny:=(bc.cell i).trans bD;have Ek:=(bc.cell j).trans af;have avq:=bc.frozen i;have avr:=bc.frozen j;have bh:=bc.ba i b;have Jz:=bh.cell j;rw[Hg,af,aP (nW.1 bD).1]at Jz;have kj2:(w.setCell ⟨g,i,none⟩ b).cell? (g,j)=some (ah b):=by rw[Jz];split<;>rfl
 have fj2:=bh.frozen j;clear Jz bh;go_enter func248,ntmps248
 go_wp2
 go_region
 go_wp2
 go_end0
 refine⟨rfl,((bc.ba i _).ba j _).drew,⟨rfl,rfl,rfl,by simp,λk ai bU=> ?_⟩⟩;have Jb:k≠g:=λe=>bU (by rw[e]);exact (jQ _ ⟨g,j,none⟩ _ k Jb).trans (jQ _ ⟨g,i,none⟩ _ k Jb)
def iN{w:ag}{B:aa}{e:dC}{k n:aa}{v:ak}{xs:dN}(h:w.ownsRow B e k v n xs):∃A c,v=ae A n c:=by
 rcases h.2 with⟨rfl,ar⟩|⟨g,cap,_,ar,_⟩
 .exact⟨none,0,by rw[ar]⟩
 .exact⟨_,_,ar⟩
def dj.CX{w:ag}{B:aa}{v:ak}{l:aW}(h:dj w B v l){p:Addr}(bU:v.ownBlock≠some p.block)(u:ak):dj (w.setCell p u) B v l:=by
 refine⟨h.1,?_⟩;rcases h.2 with ad|⟨g,cap,cur,aK,af,al,ao⟩
 .exact .inl ad
 .refine .inr ⟨g,cap,cur,aK,af,?_,ao⟩;have aR:aB w g 3 cur:=al;exact aR.far (λe=>bU (by rw[aK,<-e];rfl)) u
structure j6(w:ag)(B R:aa)(v:ak)(l:aW):Prop where
 box:aB w R 194 #[v]
 own:dj w B v l
 far:v.ownBlock≠some R
 low:B<=R
structure Two(w w':ag)(a:Option aa)(r:aa):Prop where
 os:w'.os=w.os
 tape:w'.tape=w.tape
 output:w'.output=w.output
 size:w<=w'.heap.size
 block:∀k,k<w.heap.size->k≠r->some k≠a->w'.heap[k]?=w.heap[k]?
def Two.AQ{w w':ag}{a:Option aa}{r:aa}(h:w.grownBy w' a):Two w w' a r:=⟨h.os,h.tape,h.output,h.size,λk ai _ bU=>h.block k ai bU⟩
def Two.refl(w:ag)(a:Option aa)(r:aa):Two w w a r:=⟨rfl,rfl,rfl,bB _,λ_ _ _ _=>rfl⟩
def Two.trans{w w1 w2:ag}{a b:Option aa}{r:aa}(h:Two w w1 a r)(k:Two w1 w2 b r)(af:b=a\/∃g,b=some g/\w.heap.size<=g):Two w w2 a r:=
 ⟨k.os.trans h.os,k.tape.trans h.tape,k.output.trans h.output,fN h.size k.size,λi aD aC bU=>(k.block i (bG aD h.size) aC (λe=>by
  rcases af with af|⟨g,af,al⟩
  .exact bU (af▸e)
  .rw[af]at e;have:=cJ e;omega)).trans (h.block i aD aC bU)⟩
def Two.ky{w w':ag}{a:Option aa}{r:aa}(h:Kept w w'):Two w w' a r:=⟨h.os,h.tape,h.output,h.size,λk ai _ _=>h.block k ai⟩
def Two.ba{w w':ag}{a:Option aa}{r:aa}(h:Two w w' a r)(i:aa)(u:ak):Two w (w'.setCell (r,i) u) a r:=
 ⟨h.os,h.tape,h.output,by simp;exact h.size,λk ai aC bU=>(jQ w' ⟨r,i,none⟩ u k aC).trans (h.block k ai aC bU)⟩
def akG(B R:aa)(v:ak)(l:aW)(x:J)(w:ag)(h:j6 w B R v l)(av:l.length<=1000000)(bc:B<=w.heap.size):
  bg 247 #[.pointer (some (R,0)),.iface 3 x] w λe w'=>e=bL (bj #[])/\∃v',j6 w' B R v' (l++[x])/\Two w w' v.ownBlock R/\(v'.ownBlock=v.ownBlock\/∃g,v'.ownBlock=some g/\w.heap.size<=g):=by
 obtain⟨jq,fx,fy,fz,fA⟩:=hy Tryz.td;have cK:=h.box.cell 0;have cR:=h.box.lt;simp only[hL,iP]at cK;have hta:(Instr.typeAssert (.iface 3 x) 20 3 true).run prog w= .ok (bj #[x,bR true]) w:=by kernel_rfl
 have dv:=I h;have dB:=I av;have TX:=I bc;clear h av bc;go_enter func247,ntmps247
 go_wp2_with (at_builtin;refine jB _ rfl (.tmp 15) (.tmp 17) 194 rfl B 3 jq () 1 8 underlying194 fx fy fz fA rfl (by decide) v l (l.map (.int .i64)) rfl (fX dv.own _) ⟨w.heap.size,0,none⟩ 1 1 [ah x] rfl rfl (n0 _ _ _) (oY x) (by have:=dB.out;unfold maxLen;omega) (by have:=dB.out;omega) (by have:=TX.out;simp;omega) ?_;intro v' c4 gy cu _ dK;have cI:=I (bb gy (bb cu dK));have zJ:aB c4 R 194 #[v]:=(cu.block R (by simp;omega) (λe=>dv.far e.symm)).trans (dv.box.alloc _);have dX:=zJ.cell 0;have f0:=zJ.frozen 0;have gA:=zJ.lt;simp only[hL,iP]at dX;clear gy cu dK zJ;obtain⟨e6,b_,rfl⟩:=iN cI.1)
 go_end0
 obtain⟨ab,ad,ao⟩:=cI.out;have bU:(Value.slice e6 (l.length+1) b_).ownBlock≠some R:=by
  rcases ao with e|e
  .rw[e];exact dv.far
  .rw[e];intro a_;have:=cJ a_;simp at this;omega
 have zJ:aB c4 R 194 #[v]:=(ad.block R (by simp;omega) (λe=>dv.far e.symm)).trans (dv.box.alloc _);have aR:dj c4 B (ae e6 (l.length+1) b_) (l++[x]):=vq ab;refine⟨rfl,_,⟨zJ.ba 0 _,dj.CX aR bU _,bU,dv.low⟩,((Two.ky (Kept.alloc (aG w) _)).trans (Two.AQ ad) (.inl rfl)).ba 0 _,?_⟩;rcases ao with e|e
 .exact .inl e
 .exact .inr ⟨_,e,by simp⟩
def adX{w:ag}{B:aa}{e:dC}{g n m cap:aa}{xs:dN}(h:w.ownsRow B e 1 (ae (some (g,0)) n cap) n xs)(hm:m<=n):w.ownsRow B e 1 (ae (some (g,0)) m cap) m (xs.take m):=by
 obtain⟨ab,ad⟩:=h;rcases ad with⟨ar,_⟩|⟨ju,rj,cur,ar,ao,aR,bw,eL,hX,eI⟩
 .cases ar
 .cases ar;refine⟨by rw[gT];omega,.inr ⟨g,cap,cur,rfl,ao,aR,by omega,eL,hX,?_⟩⟩;rw[<-eI,Tu,x5 (by omega),jD]
def akE(B R g cap:aa)(l:aW)(w:ag)(h:j6 w B R (ae (some (g,0)) l cap) l)(hp:0<l.length)(av:l.length<=1000000):
  bg 246 #[.pointer (some (R,0))] w λe w'=>e=bL (.iface 3 (ah (dJ l (l.length-1))))/\j6 w' B R (ae (some (g,0)) (l.length-1) cap) (l.take (l.length-1))/\Two w w' (some g) R:=by
 have cK:=h.box.cell 0;have f0:=h.box.frozen 0;have cR:=h.box.lt;simp only[hL,iP]at cK;obtain⟨x,aj⟩:∃x,l[l.length-1]?=some x:=⟨_,bn (show l.length-1<l.length by omega)⟩;have hg:dJ l (l.length-1)=x:=by unfold dJ;rw[aj];rfl
 have aY:aU w (g,l.length-1)=some (ah x):=by
  rcases h.own.2 with⟨_,ar⟩|⟨ju,rj,cur,ar,ao,aR,bw,eL,hX,eI⟩
  .omega
  .cases ar;rw[cell_of_row w g _ cur _ _ aR];have:=congrArg (λq=>q[l.length-1]?) eI;simp only[jD]at this;rw[tv (by omega),hS,aj,Ba]at this;exact this
 have Yh:g<w:=by
  rcases h.own.2 with⟨ar,_⟩|⟨ju,rj,cur,ar,ao,aR,bw,eL,hX,eI⟩
  .cases ar
  .cases ar;exact (nW.1 aR).1
 have xt:l.length<=cap:=by
  rcases h.own.2 with⟨ar,_⟩|⟨ju,rj,cur,ar,ao,aR,bw,eL,hX,eI⟩
  .cases ar
  .cases ar;exact bw
 have aQ:((l:J)-1)=((l.length-1:aa):J):=by omega
 have a_:(((l.length-1:aa):J))<(l:J):=by omega
 have cv:(((l.length-1:aa):J))<=(cap:J):=by omega
 have h_:(l:J)<=1000000:=by omega
 rw[hg];have bM:Hid (j6 (w.setCell ⟨R,0,none⟩ (ae (some (g,0)) (l.length-1) cap)) B R (ae (some (g,0)) (l.length-1) cap) (l.take (l.length-1))/\Two w (w.setCell ⟨R,0,none⟩ (ae (some (g,0)) (l.length-1) cap)) (some g) R):=by
  have bU:g≠R:=λe=>h.far (by rw[<-e];rfl);have aA:dj w B (ae (some (g,0)) (l.length-1) cap) (l.take (l.length-1)):=by
   have:=adX (m:=l.length-1) h.own (by omega);rw[<-E5]at this;unfold dj;rw[gT,x5 (by omega)];exact this
  exact I ⟨⟨h.box.ba 0 _,aA.CX (λe=>bU (by have:=cJ e;exact this)) _,λe=>bU (cJ e),h.low⟩,(Two.refl w (some g) R).ba 0 _⟩
 clear h aj hg av;generalize l.length=n at*;generalize l.take (n-1)=lt at*;generalize hm:n-1=m at*;have cB:=I hm;clear hm;go_enter func246,ntmps246
 go_wp2_with fail
 go_ret;exact⟨rfl,bM.1,bM.2⟩
def mC(s:kj)(o n:J)(bA:List dh):dh×J:=
 if 1<=o/\o<=5 then En s.ms n o else if o=6 then F1 s.ms n else if o=7 then qS s.ms n s.ins else if o=8 then qS s.ms n s.ds else if o=9 then (⟨5,0⟩,0)
 else if o=33\/o=34 then C2 s o n (bA[0]?.getD t0)else if 35<=o/\o<=39 then GV s o n
 else if 14<=o/\o<=16/\zx n=false then (t0,3)else if (kK o (bA[0]?.getD t0) (bA[1]?.getD t0) (bA[2]?.getD t0)).2=true then ((kK o (bA[0]?.getD t0) (bA[1]?.getD t0) (bA[2]?.getD t0)).1,0)else (t0,8)
def ajK{w W w1:ag}{g:aa}{t:dC}(k e:J)(bc:aB W g t #[(),()])(ax:Kept w W)(al:w<=g)(h:Kept W w1):
  aB ((w1.setCell (g,0) k).setCell (g,1) e) g t #[k,e]/\Kept w ((w1.setCell (g,0) k).setCell (g,1) e):=
 jc k e (bc.kept h) (ax.trans h) al
def adC(o n:J)(cm:ak)(bA:List dh)(cH:ak)(s:kj)(w:ag)(bE:mm w cm bA)(bH:qv w cH s)(aH:n<=9223372036854775807)(aA:(1<=o/\o<=9)\/(35<=o/\o<=39)):bg 179 #[aF #[o,n],cm,cH] w (rM (mC s o n bA) w):=by
 have eb:=I (λw1(h:Kept w w1)=>bH.kept h);obtain⟨atg,aI,rfl,-⟩:=bE.at_;obtain⟨c5,ce,cV,cX,eh,ci,kO,cF,ff,lh,rfl,-,-,b6,cY,-⟩:=bH.form;have dY:=I (λw1(h:Kept w w1)=>b6.kept h);have cU:=I (λw1(h:Kept w w1)=>cY.kept h);have yi:=I (λk w1(h:Kept w w1)=>amm n k _ s w1 (eb w1 h));have KA:=I (λw1(h:Kept w w1)=>aiZ n _ s w1 (eb w1 h) aH);have HL7:=I (λw1(h:Kept w w1)=>Yj n _ s.ins _ s w1 (dY w1 h) (eb w1 h) aH);have HL8:=I (λw1(h:Kept w w1)=>Yj n _ s.ds _ s w1 (cU w1 h) (eb w1 h) aH);have HK:=I (λaA w1(h:Kept w w1)=>amA o n _ s w1 (eb w1 h) aA aH);unfold rM at yi KA HL7 HL8 HK⊢;obtain⟨R,aJ⟩:∃R,R=mC s o n bA:=⟨_,rfl⟩;rw[<-aJ];unfold mC at aJ;have cI:=I (show (1<=o/\o<=5->R=En s.ms n o)/\(o=6->R=F1 s.ms n)/\(o=7->R=qS s.ms n s.ins)/\(o=8->R=qS s.ms n s.ds)/\(o=9->R=(⟨5,0⟩,0))/\(35<=o/\o<=39->R=GV s o n)from
  ⟨λh=>by rw[aJ,aP h],λh=>by rw[aJ,aw (by omega),aP h],λh=>by rw[aJ,aw (by omega),aw (by omega),aP h],λh=>by rw[aJ,aw (by omega),aw (by omega),aw (by omega),aP h],
   λh=>by rw[aJ,aw (by omega),aw (by omega),aw (by omega),aw (by omega),aP h],λh=>by rw[aJ,aw (by omega),aw (by omega),aw (by omega),aw (by omega),aw (by omega),aw (by omega),aP h]⟩)
 generalize En s.ms n=F at*;generalize F1 s.ms n=avc at*;generalize qS s.ms n s.ins=avd at*;generalize qS s.ms n s.ds=avf at*;generalize GV s=M at*;generalize bA.length=atK at*;generalize s.ms.length=dS at*;generalize s.tb.length=dd at*;generalize s.ins.length=cC at*;generalize s.ds.length=ei at*;generalize s.md.length=eE at*;clear bE bH b6 cY aJ eb dY cU;go_enter func179,ntmps179
 go_upto_region 2 with fail
 generalize aL:((w.alloc _).alloc _).alloc _=W at*;obtain⟨bp,bh,bm,cP⟩:=Kept.cv aL;clear aL;obtain⟨aY,bq⟩:=bh.p;obtain⟨a',b5⟩:=bm.p;obtain⟨bu,dW,f3⟩:=cP.q;have akB:o=1\/o=2\/o=3\/o=4\/o=5\/o=6\/o=7\/o=8\/o=9\/o=35\/o=36\/o=37\/o=38\/o=39:=by omega
 clear aA;have bM:=I (λ(k e:J)w1(h:Kept W w1)=>ajK k e cP bp (show w<=w.heap.size+1+1 by omega) h);have dv:=I (λw1(h:Kept W w1)=>cP.kept h);clear bh bm cP;rcases akB with rfl|rfl|rfl|rfl|rfl|rfl|rfl|rfl|rfl|rfl|rfl|rfl|rfl|rfl
 case' inr.inr.inr.inr.inr.inr.inr.inr.inl=>
  have az:=cI.2.2.2.2.1 rfl;have b1:=I az;clear az;go_wp2_with fail
  obtain⟨de,aS⟩:=bM.out 5 0 W (aG W);have da:=de.cell;exact bI (v:=bj #[aF #[ah 5,()],()]) (by simp[results,results179,go_sem,da]) rfl ⟨by rw[b1],aS⟩
 all_goals
  first
  |(have bk:R=F 1:=cI.1 (by decide)
    have ct:=I (yi 1 W bp);rw[<-bk]at ct;clear bk;go_wp2_with (go_at_call 190;refine ct.mono ?_;rintro aQ w1⟨rfl,au⟩;have ev:=dv.out w1 au;have d3:=ev.cell;have cv:=ev.frozen;have m3:=ev.lt))
  |(have bk:R=F 2:=cI.1 (by decide)
    have ct:=I (yi 2 W bp);rw[<-bk]at ct;clear bk;go_wp2_with (go_at_call 190;refine ct.mono ?_;rintro aQ w1⟨rfl,au⟩;have ev:=dv.out w1 au;have d3:=ev.cell;have cv:=ev.frozen;have m3:=ev.lt))
  |(have bk:R=F 3:=cI.1 (by decide)
    have ct:=I (yi 3 W bp);rw[<-bk]at ct;clear bk;go_wp2_with (go_at_call 190;refine ct.mono ?_;rintro aQ w1⟨rfl,au⟩;have ev:=dv.out w1 au;have d3:=ev.cell;have cv:=ev.frozen;have m3:=ev.lt))
  |(have bk:R=F 4:=cI.1 (by decide)
    have ct:=I (yi 4 W bp);rw[<-bk]at ct;clear bk;go_wp2_with (go_at_call 190;refine ct.mono ?_;rintro aQ w1⟨rfl,au⟩;have ev:=dv.out w1 au;have d3:=ev.cell;have cv:=ev.frozen;have m3:=ev.lt))
  |(have bk:R=F 5:=cI.1 (by decide)
    have ct:=I (yi 5 W bp);rw[<-bk]at ct;clear bk;go_wp2_with (go_at_call 190;refine ct.mono ?_;rintro aQ w1⟨rfl,au⟩;have ev:=dv.out w1 au;have d3:=ev.cell;have cv:=ev.frozen;have m3:=ev.lt))
  |(have bk:=cI.2.1 rfl
    have ct:=I (KA W bp);rw[<-bk]at ct;clear bk;go_wp2_with (go_at_call 191;refine ct.mono ?_;rintro aQ w1⟨rfl,au⟩;have ev:=dv.out w1 au;have d3:=ev.cell;have cv:=ev.frozen;have m3:=ev.lt))
  |(have bk:=cI.2.2.1 rfl
    have ct:=I (HL7 W bp);rw[<-bk]at ct;clear bk;go_wp2_with (go_at_call 192;refine ct.mono ?_;rintro aQ w1⟨rfl,au⟩;have ev:=dv.out w1 au;have d3:=ev.cell;have cv:=ev.frozen;have m3:=ev.lt))
  |(have bk:=cI.2.2.2.1 rfl
    have ct:=I (HL8 W bp);rw[<-bk]at ct;clear bk;go_wp2_with (go_at_call 192;refine ct.mono ?_;rintro aQ w1⟨rfl,au⟩;have ev:=dv.out w1 au;have d3:=ev.cell;have cv:=ev.frozen;have m3:=ev.lt))
  |(have bk:=cI.2.2.2.2.2 (by decide)
    have ct:=I (HK (by decide) W bp);rw[<-bk]at ct;clear bk;go_wp2_with (go_at_call 194;refine ct.mono ?_;rintro aQ w1⟨rfl,au⟩;have ev:=dv.out w1 au;have d3:=ev.cell;have cv:=ev.frozen;have m3:=ev.lt))
  obtain⟨de,aS⟩:=bM.out R.1.k R.1.e w1 au;have da:=de.cell;exact bI (v:=bj #[aF #[R.1.k,R.1.e],R.2]) (by simp[results,results179,go_sem,da]) rfl ⟨rfl,aS⟩
def ap6{w:ag}{bA:List dh}{b off:aa}(af:b<w)(aq:∀j t,bA[j]?=some t->aU w ⟨b,off+j*2,none⟩=some (ah t.k)/\aU w ⟨b,off+j*2+1,none⟩=some (ah t.e)):
  uI w b off bA (bA[0]?.getD t0) (bA[1]?.getD t0) (bA[2]?.getD t0):=by
 have key:∀j,j+1<=bA.length->aU w ⟨b,off+j*2,none⟩=some (ah (bA[j]?.getD t0).k)/\aU w ⟨b,off+j*2+1,none⟩=some (ah (bA[j]?.getD t0).e):=λj ay=>by
  have e:bA[j]?=some (bA[j]'(by omega)):=bn _;rw[e];exact aq j _ e
 exact⟨af,λh=>key 0 h,λh=>key 1 h,λh=>key 2 h⟩
def an5(op:J)(cm:ak)(bA:List dh)(w:ag)(bT:mm w cm bA)(qO:eP op=bA.length)(aC:10<=op/\op<=32):bg 196 #[op,cm] w (k1 (kK op (bA[0]?.getD t0) (bA[1]?.getD t0) (bA[2]?.getD t0)) w):=by
 obtain⟨A,cap,rfl,aj⟩:=bT.at_;have ab:(op=10\/op=25\/op=31\/op=32)/\bA.length=1\/op=26/\bA.length=3\/(11<=op/\op<=30/\op≠25/\op≠26)/\bA.length=2:=by
  unfold eP at qO;split at qO
  .omega
  .split at qO
   .omega
   .split at qO
    .omega
    .split at qO<;>omega
 have hp:0<bA.length:=by omega
 obtain⟨b,off,rfl,af,aq⟩:=aj hp;have hC:=ap6 af aq;generalize bA[0]?.getD t0=x at*;generalize bA[1]?.getD t0=y at*;generalize bA[2]?.getD t0=z at*;rcases ab with⟨h,e⟩|⟨h,e⟩|⟨h,e⟩<;>rw[e]at hC⊢
 .rcases h with h|h|h
  .exact aob op h b off cap x y z w hC
  .exact aoj op h b off cap x y z w hC
  .exact aon op h b off cap x y z w hC
 .exact aok op h b off cap x y z w hC
 .have ad:(op=11\/op=12)\/(op=13\/op=14\/op=15)\/op=16\/(op=17\/op=18)\/(op=19\/op=20)\/(op=21\/op=22)\/(op=23\/op=24)\/(op=27\/op=28)\/(op=29\/op=30):=by omega
  rcases ad with h|h|h|h|h|h|h|h|h
  .exact aoc op h b off cap x y z w hC
  .exact aod op h b off cap x y z w hC
  .exact aoe op h b off cap x y z w hC
  .exact aof op h b off cap x y z w hC
  .exact aog op h b off cap x y z w hC
  .exact aoh op h b off cap x y z w hC
  .exact aoi op h b off cap x y z w hC
  .exact aol op h b off cap x y z w hC
  .exact aom op h b off cap x y z w hC
def adD(o n:J)(cm:ak)(bA:List dh)(cH:ak)(s:kj)(w:ag)(bE:mm w cm bA)(ab:0<bA.length)(bH:qv w cH s)(aH:n<=9223372036854775807)(aA:o=33\/o=34):bg 179 #[aF #[o,n],cm,cH] w (rM (mC s o n bA) w):=by
 have eb:=I (λw1(h:Kept w w1)=>bH.kept h);obtain⟨atg,aI,rfl,aj⟩:=bE.at_;obtain⟨b,off,rfl,af,aq⟩:=aj ab;have al:bA[0]?=some bA[0]:=bn ab;obtain⟨bX,bQ⟩:=aq 0 _ al;simp only[vA,lT]at bX bQ;obtain⟨c5,ce,cV,cX,eh,ci,kO,cF,ff,lh,rfl,-⟩:=bH.form;have aJ:mC s o n bA=C2 s o n bA[0]:=by
  unfold mC;rw[aw (by omega),aw (by omega),aw (by omega),aw (by omega),aw (by omega),aP aA,al,b9]
 rw[aJ];clear aJ al aq aj;generalize bA[0]=T at*;obtain⟨k,e⟩:=T;have c8:=I (λw1(h:Kept w w1)=>apv o n k e _ s w1 (eb w1 h) aA aH);unfold rM at c8⊢;dsimp only at bX bQ;generalize C2 s o n ⟨k,e⟩=R at*;obtain⟨⟨cS,eo⟩,rc⟩:=R;dsimp only at c8⊢;have ry:(0:J)<bA.length:=by omega
 generalize bA.length=atK at*;generalize s.ms.length=dS at*;generalize s.tb.length=dd at*;generalize s.ins.length=cC at*;generalize s.ds.length=ei at*;generalize s.md.length=eE at*;clear bE bH eb;go_enter func179,ntmps179
 go_upto_region 2 with fail
 generalize aL:((w.alloc _).alloc _).alloc _=W at*;obtain⟨bp,bh,bm,cP⟩:=Kept.cv aL;clear aL;have hE:=bG af bp.size;have z0:=aS.cell hE (bp.aI af bX);have fL:=aS.cell hE (bp.aI af bQ);have a0:=aS.cell bh.lt (bh.cell 0);have eS:=aS.cell bh.lt (bh.cell 1);have ie:=aS.cell bm.lt (bm.cell 0);have s1:=aS.cell bm.lt (bm.cell 1);have s2:=aS.cell bm.lt (bm.cell 2);have G5:=aS.cell bm.lt (bm.cell 3);have uf:=aS.cell bm.lt (bm.cell 4);have CW:=aS.cell bm.lt (bm.cell 5);clear bX bQ;rcases aA with rfl|rfl
 all_goals
  go_upto_region 22 with fail
  refine wH 8 (by kernel_rfl) (by kernel_rfl) ?_;simp only[sz,q0,vE,rS]
  repeat (go_big_quiet_step ((go_at_call 193;with_reducible exact aS.call (c8.out _ (bp.trans (aS.h _))))))
  refine f' ?_;rintro w2⟨⟨cj,eX⟩,aT⟩;obtain rfl:w2=cj:=aT;clear z0 fL a0 eS ie s1 s2 G5 uf CW;have jr:=cP.kept eX;obtain⟨d3,dl,bx⟩:=jr.q;go_wp2_with fail
  obtain⟨de,aS⟩:=jc cS eo jr (bp.trans eX) (by omega);have da:=de.cell;exact bI (v:=bj #[aF #[cS,eo],rc]) (by simp[results,results179,go_sem,da]) rfl ⟨rfl,aS⟩
def am3(o n:J)(cm:ak)(bA:List dh)(cH:ak)(s:kj)(w:ag)(bE:mm w cm bA)(qO:eP o=bA.length)(bH:qv w cH s)(aA:10<=o/\o<=32):bg 179 #[aF #[o,n],cm,cH] w (rM (mC s o n bA) w):=by
 have o_:=I (λw1(h:Kept w w1)=>an5 o cm bA w1 (bE.kept h) qO aA);have HVM:=I (λw1=>abK n w1);obtain⟨atg,aI,rfl,-⟩:=bE.at_;obtain⟨c5,ce,cV,cX,eh,ci,kO,cF,ff,lh,rfl,-⟩:=bH.form;have aJ:mC s o n bA=if 14<=o/\o<=16/\zx n=false then (t0,3)else if (kK o (bA[0]?.getD t0) (bA[1]?.getD t0) (bA[2]?.getD t0)).2=true then ((kK o (bA[0]?.getD t0) (bA[1]?.getD t0) (bA[2]?.getD t0)).1,0)else (t0,8):=by
  unfold mC;rw[aw (by omega),aw (by omega),aw (by omega),aw (by omega),aw (by omega),aw (by omega),aw (by omega)]
 unfold k1 at o_;unfold rM;generalize mC s o n bA=R at*;generalize kK o (bA[0]?.getD t0) (bA[1]?.getD t0) (bA[2]?.getD t0)=Q at*;obtain⟨⟨rI,rH⟩,tl⟩:=Q;dsimp only at*;generalize bA.length=atK at*;generalize s.ms.length=dS at*;generalize s.tb.length=dd at*;generalize s.ins.length=cC at*;generalize s.ds.length=ei at*;generalize s.md.length=eE at*;have aX:=I aJ;clear bE bH aJ qO;go_enter func179,ntmps179
 go_upto_region 2 with fail
 generalize aL:((w.alloc _).alloc _).alloc _=W at*;obtain⟨bp,bh,bm,cP⟩:=Kept.cv aL;clear aL;obtain⟨aY,bq⟩:=bh.p;obtain⟨bu,dW,f3⟩:=cP.q;have bM:=I (λ(k e:J)w1(h:Kept W w1)=>jc k e ((cP.kept h).alloc (.cells #[rI,rH] 94)) ((bp.trans h).alloc _) (show w<=w.heap.size+1+1 by omega));have dv:=I (λw1(h:Kept W w1)=>(cP.kept h).alloc (.cells #[rI,rH] 94));have uC:=I (jc 0 0 cP bp (show w<=w.heap.size+1+1 by omega));clear bh bm cP;by_cases hm:14<=o/\o<=16
 case neg=>
  obtain⟨e9,eC,ia,wz,CL,zj,Yw,avz,avA,n33,n34,n35,n36,n37,n38,n39,n14,n15,n16⟩:(o==1)=false/\(o==2)=false/\(o==3)=false/\(o==4)=false/\(o==5)=false/\(o==6)=false/\(o==7)=false/\(o==8)=false/\(o==9)=false/\(o==33)=false/\(o==34)=false/\(o==35)=false/\(o==36)=false/\(o==37)=false/\(o==38)=false/\(o==39)=false/\(o==14)=false/\(o==15)=false/\(o==16)=false:=by refine⟨?_,?_,?_,?_,?_,?_,?_,?_,?_,?_,?_,?_,?_,?_,?_,?_,?_,?_,?_⟩<;>(simp;omega)
  have lG:¬(14<=o/\o<=16/\zx n=false):=λh=>hm ⟨h.1,h.2.1⟩;replace aX:=I (aX.trans (aw lG));clear hm lG aA
  cases tl
  .have az:=I (show R=(t0,8) by rw[aX];simp);go_wp2_with (go_at_call 196;refine (o_ _ bp).mono ?_;rintro aQ w1⟨rfl,au⟩;have ev:=dv.out w1 au;have rU:=aB.new w1 94 #[rI,rH];have d3:=ev.cell;have cv:=ev.frozen;have m3:=ev.lt;have d8:=rU.cell;have m8:=rU.lt)
   obtain⟨de,aS⟩:=bM.out 0 0 w1 au;have da:=de.cell;exact bI (v:=bj #[aF #[(),()],ah 8]) (by simp[results,results179,go_sem,da]) rfl ⟨by rw[az];rfl,aS⟩
  .have az:=I (show R=(⟨rI,rH⟩,0) by rw[aX];simp);go_wp2_with (go_at_call 196;refine (o_ _ bp).mono ?_;rintro aQ w1⟨rfl,au⟩;have ev:=dv.out w1 au;have rU:=aB.new w1 94 #[rI,rH];have d3:=ev.cell;have cv:=ev.frozen;have m3:=ev.lt;have d8:=rU.cell;have m8:=rU.lt)
   obtain⟨de,aS⟩:=bM.out rI rH w1 au;have da:=de.cell;exact bI (v:=bj #[aF #[rI,rH],()]) (by simp[results,results179,go_sem,da]) rfl ⟨by rw[az],aS⟩
 obtain rfl|rfl|rfl:o=14\/o=15\/o=16:=by omega
 all_goals
  cases aK:zx n
  .have sM:=I (λw1=>(by have:=HVM.out w1;rwa [aK]at this:bg 195 #[n] w1 λr w'=>r=bL (bR false)/\w1=w'));have az:=I (show R=(t0,3) by rw[aX,aP ⟨by decide,by decide,aK⟩]);obtain⟨de,aS⟩:=uC.out;have da:=de.cell;go_wp2_with (go_at_call 195;refine (sM _).mono ?_;rintro aQ w1⟨rfl,rfl⟩)
   exact bI (v:=bj #[aF #[(),()],ah 3]) (by simp[results,results179,go_sem,da]) rfl ⟨by rw[az];rfl,aS⟩
  .have sM:=I (λw1=>(by have:=HVM.out w1;rwa [aK]at this:bg 195 #[n] w1 λr w'=>r=bL (bR true)/\w1=w'));replace aX:=I (aX.trans (aw (λh=>by rw[aK]at h;exact absurd h.2.2 (by decide))));go_upto_region 34 with (go_at_call 195;refine (sM _).mono ?_;rintro aQ w1⟨rfl,rfl⟩)
   cases tl
   .have az:=I (show R=(t0,8) by rw[aX];simp);go_wp2_with (go_at_call 196;refine (o_ _ bp).mono ?_;rintro aQ w1⟨rfl,au⟩;have ev:=dv.out w1 au;have rU:=aB.new w1 94 #[rI,rH];have d3:=ev.cell;have cv:=ev.frozen;have m3:=ev.lt;have d8:=rU.cell;have m8:=rU.lt)
    obtain⟨de,aS⟩:=bM.out 0 0 w1 au;have da:=de.cell;exact bI (v:=bj #[aF #[(),()],ah 8]) (by simp[results,results179,go_sem,da]) rfl ⟨by rw[az];rfl,aS⟩
   .have az:=I (show R=(⟨rI,rH⟩,0) by rw[aX];simp);go_wp2_with (go_at_call 196;refine (o_ _ bp).mono ?_;rintro aQ w1⟨rfl,au⟩;have ev:=dv.out w1 au;have rU:=aB.new w1 94 #[rI,rH];have d3:=ev.cell;have cv:=ev.frozen;have m3:=ev.lt;have d8:=rU.cell;have m8:=rU.lt)
    obtain⟨de,aS⟩:=bM.out rI rH w1 au;have da:=de.cell;exact bI (v:=bj #[aF #[rI,rH],()]) (by simp[results,results179,go_sem,da]) rfl ⟨by rw[az],aS⟩
end Go.Proofs.YtilhklpfkgbikaaGreatDoor
