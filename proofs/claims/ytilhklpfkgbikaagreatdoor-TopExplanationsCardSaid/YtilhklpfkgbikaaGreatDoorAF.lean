import Derived.Test.YtilhklpfkgbikaaGreatDoorAD
set_option linter.all false
namespace Go.Proofs.YtilhklpfkgbikaaGreatDoor
open Go.RowKit Go.Proofs.Tryz
set_option maxRecDepth 100000
set_option maxHeartbeats 8000000
def anB{w:ag}{B n CO:aa}{vT:gu}{l:aW}(h:dj w B (ae vT n CO) l){i:aa}{d:J}(aE:l[i]?=some d):∃g,vT=some ⟨g,0,none⟩/\g<w.heap.size/\aU w ⟨g,i,none⟩=some (ah d):=by
 obtain⟨A,cap,he,ad⟩:=h.row;simp only[i_]at he;obtain⟨rfl,-,rfl⟩:=he;obtain⟨g,ao,-,aR,bw⟩:=ad (by have:=(b2 aE).1;omega);exact⟨g,ao,aR,bw _ _ aE⟩
def VS{w C7:ag}{P dz:aa}{dt cn:J}{b7 c1 cM bv:ak}{R:BD}{ds:List bC}{us:aW}{c d k:J}(h:BD.mk ds us c d k=R)(ar:c≠0)(ad:Two w C7 none P):L4 P dt b7 c1 cM bv cn R dz w (bL (bj #[bf,aF #[c,cn,d,k]])) C7:=by
 subst h;exact⟨_,cn,d,k,rfl,lV.err ar,ad,λh=>absurd h ar⟩
def ai2{w C7:ag}{P dz:aa}{dt cn:J}{b7 c1 cM bv:ak}{R:BD}{ds:List bC}{us:aW}{c d k x y z:J}(h:BD.mk ds us c d k=R)(ar:c≠0)(a1:lV c cn d k x y z)(ad:Two w C7 none P):L4 P dt b7 c1 cM bv cn R dz w (bL (bj #[bf,aF #[c,x,y,z]])) C7:=by
 subst h;exact⟨_,x,y,z,rfl,a1,ad,λh=>absurd h ar⟩
def aqz{w:ag}{D:aa}{t:dC}{ds:List bC}(h:aB w D t (vv ds)){d:aa}(aE:d<ds.length):∃a b c:J,aU w (D,d*3)=some (ah a)/\aU w (D,d*3+1)=some (ah b)/\aU w (D,d*3+2)=some (ah c):=by
 obtain⟨A,cap,he,ad⟩:=(S6 h).at_;obtain⟨b,off,bD,-,ao⟩:=ad (by omega);simp only[i_]at he;obtain⟨rfl,-,-⟩:=he
 cases bD;have:=ao d _ (bn aE);simp only[ql]at this;exact⟨_,_,_,this⟩
def ai3{w wr:ag}{P S js D fs B:aa}{dt:J}{b7 c1 cM bv:ak}{sc:ho}{wF:ak}{o:aW}{dz:aa}{ds:List bC}{eZ:aW}(cn:J)(h:w8 w wr P S js D fs B dt b7 c1 cM bv sc wF o dz ds eZ):
  L4 P dt b7 c1 cM bv cn ⟨ds,eZ,0,0,0⟩ dz w (bL (bj #[ae (some (fs,0)) dz dz,aF #[(),(),(),()]])) ((((wr.setCell (js,0) ()).setCell (js,1) ()).setCell (js,2) ()).setCell (js,3) ()):=by
 have QQ:P≠js:=by have:=h.eJ;have:=h.a1;omega
 have aE:=((((h.vX.far (p:=⟨js,0,none⟩) h.xm.symm ()).far (p:=⟨js,1,none⟩) h.xm.symm ()).far (p:=⟨js,2,none⟩) h.xm.symm ()).far (p:=⟨js,3,none⟩) h.xm.symm ());have aC:=((((h.ej.far (p:=⟨js,0,none⟩) h.r_.symm ()).far (p:=⟨js,1,none⟩) h.r_.symm ()).far (p:=⟨js,2,none⟩) h.r_.symm ()).far (p:=⟨js,3,none⟩) h.r_.symm ());have hp:=((((h.j1.far (p:=⟨js,0,none⟩) QQ ()).far (p:=⟨js,1,none⟩) QQ ()).far (p:=⟨js,2,none⟩) QQ ()).far (p:=⟨js,3,none⟩) QQ ());have aK:=S6 aE;have aD:=XY aC;rw[h.dl]at aK;rw[h.JT]at aD;exact⟨_,0,0,0,rfl,lV.ok,(((h.two.oA h.a1 0 _).oA h.a1 1 _).oA h.a1 2 _).oA h.a1 3 _,λ_=>⟨_,hp,aK,aD,h.JT,λb af=>by cases af;exact⟨h.cY,aE.lt⟩,λb af=>by cases af;exact h.aJ⟩⟩
def abH(cH b7 c1 cM bv dv0 nbv:ak)(x:cq)(E:dT)(nb:List Bool)(P:aa)(cn:J)(w:ag)(eJ:aB w P 67 #[E.dt,b7,dv0,c1,cM,bv])(hF:StP w P (λw'=>nF w' cH x/\ft w' b7 E.ins/\kh w' c1 E.ms/\mm w' cM E.mt/\c0 6 ld w' bv E.tb/\E9 w' nbv nb/\Mon w'))(aJ:qw x.rs)(aH:x.ds.length<=1000)(lH:nb.length=x.ds.length)(ph:∀d:J,¬pc (gV x.ds x.rs) d d):
  bg 34 #[cH,.pointer (some (P,0)),cn,nbv] w (L4 P E.dt b7 c1 cM bv cn (lN cz E x.rs nb (ox (gV x.ds x.rs)) (List.replicate x.ds v0) (List.replicate x.ds 0)) x.ds w):=by
 obtain⟨i0,aD,fY,cG,eM⟩:=hy Tryz.acV;obtain⟨jq,fx,fy,fz,fA⟩:=hy Tryz.td;have bM:=I hF;obtain⟨bH,b6,hMe,hTy,hTb,oM,-⟩:=hF w (Two.refl _ _ _);have Pb:=I (λ(w1:ag)(h:Two w w1 none P)=>anp cH x w1 (hF w1 h).1 aJ aH ph);have aar:=I (λ(w1:ag)(dw:ak)(iG:dT)(d:J)(h:Two w w1 none P)(a1:je w1 dw iG)=>aoK cH dw x iG cn d w1 (hF w1 h).1 a1 (hF w1 h).2.2.2.2.2.2 aJ);have af2:=I (λ(w1:ag)(p9 dw:ak)(e:List cw)(iG:dT)(h:Two w w1 none P)(cd:iU w1 p9 e)(a1:je w1 dw iG)=>abI p9 dw e iG w1 cd a1 (hF w1 h).2.2.2.2.2.2);obtain⟨X3,VJ,Y8,rfl,hIw,hDw,l5⟩:=bH;obtain⟨jf,jo,rfl,-⟩:=hIw;obtain⟨hT,ij,rfl,-⟩:=hDw;obtain⟨eR,rc,rfl,-,-,-⟩:=l5;obtain⟨dm,aY,rfl,-⟩:=b6.at_;obtain⟨dq,bu,rfl,-⟩:=hMe.at_;obtain⟨fr,b4,rfl,-⟩:=hTy.at_;obtain⟨e6,b_,rfl,-⟩:=hTb;obtain⟨au3,avE,rfl,-⟩:=oM.at_;obtain⟨r3,QO⟩:∃r3,ox (gV x.ds x.rs)=r3:=⟨_,rfl⟩;rw[QO]at Pb⊢;have HOI:=I (show h8 x.ds r3 by rw[<-QO];exact (YM (BU _ _) (λl h=>Ak h) ph).2.1);have Pa:=I (show r3.length=x.ds.length by rw[<-QO];exact St (BU _ _) (λl h=>Ak h) ph);obtain⟨yx,Ga⟩:∃yx,lN cz E x.rs nb r3 (List.replicate x.ds v0) (List.replicate x.ds 0)=yx:=⟨_,rfl⟩;rw[Ga];have KP:=I (show lN cz E x.rs nb (r3.drop 0) (List.replicate x.ds v0) (List.replicate x.ds 0)=yx from Ga);have Wy:=eJ.lt;generalize x.aM=aM at*;generalize x.ms=ms at*;generalize x.ins.length=AN at*;obtain⟨dz,iA⟩:∃dz,x.ds.length=dz:=⟨_,rfl⟩;rw[iA]at aH lH HOI Pa KP aar Pb bM⊢;have j5:=I iA;have nC:=I (show x.rs.length=x.rs.length from rfl);generalize l9:x.rs.length=n at*;have b3:=I l9;have kB:=I lH;rw[lH]at bM⊢;have ry:(dz:J)<=1000:=by omega
 clear b6 hMe hTy oM QO Ga hF aJ ph iA l9 nC;go_enter func34,ntmps34
 go_upto_region 1 with fail
 generalize aL:(w.alloc _).alloc _=W at*;obtain⟨aV,bo,bh⟩:=Kept.a_ aL;clear aL;have dX:=bo.cell 3;have cR:=bo.lt;have yu:=eJ.kept aV;simp only[hL,iP,jd]at dX;have DZ:w.heap.size+1<W:=bh.lt;go_upto_region 2 with (at_make;refine rR _ rfl _ _ 27 rfl W 34 i0 (aF #[(),(),()]) 3 underlying27 aD fY cG _ _ _ _ dz rfl rfl rfl rfl (by rw[eM];omega) (by unfold maxLen;omega) (bB _) ?_;intro w1 cN cu;have cB:=I (adk cN cu);clear cN cu;have Ld:=yu.kept cB.2;have auM:=Ld.cell;have pqf:=Ld.frozen;have pql:=Ld.lt)
 have H8:=Ld.ba 2 (ae (some (W,0)) dz dz);have hPW:P≠W.heap.size:=by have:=aV.size;omega
 have hSW:=aV.size;have Nx:=cB.2;have ae1:=Nx.size;have oD:=cB.1.far (p:=⟨P,2,none⟩) hPW.symm (ae (some (W,0)) dz dz);have Bx:=(bo.kept Nx).far (p:=⟨P,2,none⟩) (show w.heap.size≠P by omega) (ae (some (W,0)) dz dz);have PJ:=(bh.kept Nx).far (p:=⟨P,2,none⟩) (show w.heap.size+1≠P by omega) (ae (some (W,0)) dz dz);have Lk:Two w (w1.setCell ⟨P,2,none⟩ (ae (some (W,0)) dz dz)) none P:=(Two.ky (aV.trans Nx)).ba 2 _;have acF:w1.heap.size=(w1.setCell ⟨P,2,none⟩ (ae (some (W,0)) dz dz)).heap.size:=by simp
 have y3:=cB.1.lt;rw[acF]at ae1 y3;clear cB Ld auM pqf pql dX bo bh yu Nx eJ aV;generalize w1.setCell ⟨P,2,none⟩ (ae (some (W,0)) dz dz)=ha at*;generalize W.heap.size=D at*;replace H8:aB ha P 67 #[E.dt,ae dm E.ins aY,ae (some (D,0)) dz dz,ae dq E.ms bu,ae fr E.mt b4,ae e6 E.tb b_]:=H8;clear acF;have ie:=Bx.cell 3;have Zd:=Bx.lt;simp only[hL,iP,jd]at ie;go_upto_region 3 with (at_make;refine rR _ rfl _ _ 46 rfl ha 3 jq () 1 underlying46 fx fy fz _ _ _ _ dz rfl rfl rfl rfl (by rw[fA];omega) (by unfold maxLen;omega) (bB _) ?_;intro ch cN cu;have cB:=I (R9 cN cu);clear cN cu)
 have Jy:=cB.2;have H8:=H8.kept Jy;have Bx:=Bx.kept Jy;have PJ:=PJ.kept Jy;have oD:=oD.kept Jy;have hO:=cB.1;have szR:=hO.lt;have Lk:=Lk.trans (Two.ky (a:=none) (r:=P) Jy) (.inl rfl);have aap:=Pb.out ch Lk;clear Pb cB Jy ie Zd;generalize ha.heap.size=fs at*;obtain⟨ie,Zd⟩:=Bx.p;go_upto_region 4 with (go_at_call 59;refine aap.mono ?_;rintro e U0⟨u,rfl,bd,a8⟩;have b1:=I (bb bd a8);clear bd a8)
 obtain⟨vT,CO,rfl⟩:=iN b1.1;have az:=b1.1;rw[Pa]at az⊢;generalize ch.heap.size=B at*;have O6:=I (show w8 w U0 P w (w.heap.size+1) D fs B E.dt (ae dm E.ins aY) (ae dq E.ms bu) (ae fr E.mt b4) (ae e6 E.tb b_) #[aM,ms,ae jf AN jo,ae hT dz ij,ae eR n rc] (ae vT dz CO) r3 dz (List.replicate dz v0) (List.replicate dz 0) by
  have k:=b1.2;exact⟨Lk.trans (Two.ky k) (.inl rfl),H8.kept k,Bx.kept k,PJ.kept k,oD.kept k,hO.kept k,az,by simp,by simp,Wy,bB _,pG _,by omega,by omega,by omega,by omega,by omega,by omega,by omega,by omega,by omega⟩)
 clear b1 az Lk H8 Bx PJ oD hO aap ie Zd;go_upto_region 5 with fail
 go_loopw [37] (λy wr=>∃(i:aa)(ds:List bC)(eZ:aW),y=ah i/\i<=dz/\w8 w wr P w (w.heap.size+1) D fs B E.dt (ae dm E.ins aY) (ae dq E.ms bu) (ae fr E.mt b4) (ae e6 E.tb b_) #[aM,ms,ae jf AN jo,ae hT dz ij,ae eR n rc] (ae vT dz CO) r3 dz ds eZ/\lN cz E x.rs nb (r3.drop i) ds eZ=yx) (λy _=>dz-(intOf y).toNat)
 case atStart=>exact⟨0,_,_,rfl,d' _,O6,KP⟩
 case round=>
  obtain⟨i,ds,eZ,rfl,dG,bE,a6⟩:=hrel;by_cases aN:i<dz
  .have db:(i:J)<dz:=by omega
   have Ea:i<r3.length:=by have:=Pa.out;omega
   have al:r3[i]?=some r3[i]:=bn Ea;have Aq:=HOI.out _ (fe al);rw[jA Ea]at a6;generalize r3[i]=atC at*;obtain⟨d,rfl⟩:∃d:aa,atC=d:=⟨atC.toNat,by omega⟩;have rq:d<dz:=by omega
   have Cf:(d:J)<dz:=Aq.2;obtain⟨avF,rfl,hog,Gw⟩:=anB bE.pz al;have tS:=bM.out wr bE.two;have acv:=tS.2.2.2.2.2.1.at_;rw[kB]at acv;obtain⟨pH,rj,acx,acw⟩:=acv;simp only[i_]at acx;obtain⟨rfl,-,rfl⟩:=acx;obtain⟨tl,vl,rfl,l_,Gz⟩:=acw (by omega);have jn:=Gz d (gS nb d) (by unfold gS;rw[c7,bn (by have:=kB.out;omega),b9]);have kC:=I (λh:gS nb d=false=>(aoA (Lf:=cz) (E:=E) (rs:=x.rs) (r:=r3.drop (i+1)) (ds:=ds) (us:=eZ) h).symm.trans a6);have OX:=I (λ(c k:J)(ab:gS nb d=true)(aq:(fW cz {E with ds:=ds} x.rs d).2.2=(c,k))(ar:c≠0)=>(aoy (r:=r3.drop (i+1)) (us:=eZ) ab aq ar).symm.trans a6);have agk:=I (λ(v:bC)(k:J)(ab:gS nb d=true)(aq:fW cz {E with ds:=ds} x.rs d=(v,k,0,0))=>(aoz (r:=r3.drop (i+1)) (us:=eZ) ab aq).symm.trans a6);have kg:=I bE;clear acw Gz a6 al;generalize Cw:gS nb d=q at*
   cases q
   .clear tS bE;go_wp2_with fail
    go_roundw
    case rel=>exact⟨i+1,ds,eZ,by go_num,aN,kg,kC rfl⟩
    case measure=>simp[intOf]<;>omega
   .have lJ:=S6 bE.vX;rw[bE.dl]at lJ;have MS:je wr (aF #[E.dt,ae dm E.ins aY,ae (some (D,0)) dz dz,ae dq E.ms bu,ae fr E.mt b4,ae e6 E.tb b_]) {E with ds:=ds}:=⟨_,_,_,_,_,rfl,tS.2.1,lJ,tS.2.2.1,tS.2.2.2.1,tS.2.2.2.2.1⟩;have af3:=I MS;have o':=I (λw1(ai:Kept wr w1)=>aar w1 _ _ d (bE.two.trans (Two.ky ai) (.inl rfl)) (MS.kept ai));obtain⟨xR,sc,N7,rB⟩:∃xR sc N7,e0 cz {E with ds:=ds} x.rs d=(xR,sc,N7):=⟨_,_,_,rfl⟩;rw[rB]at o';have wZ:=I rB;have tn:=bE.kL.lt;have JW:=bE.kL.cell;have pl:=bE.j1.lt;have GY:=bE.j1.cell;clear tS lJ MS rB bE kC;go_upto_region 8 with fail
    have eF:=I (show∀X,Kept wr X->Kept wr X/\aU X (w,0)=some (.string aM)/\aU X (w,1)=some (ah ms)/\aU X (w,2)=some (ae jf AN jo)/\aU X (w,3)=some (ae hT dz ij)/\aU X (w,4)=some (ae eR n rc)/\aU X (P,0)=some (ah E.dt)/\aU X (P,1)=some (ae dm E.ins aY)/\aU X (P,2)=some (ae (some (D,0)) dz dz)/\aU X (P,3)=some (ae dq E.ms bu)/\aU X (P,4)=some (ae fr E.mt b4)/\aU X (P,5)=some (ae e6 E.tb b_)from λX h=>⟨h,h.aI tn (JW 0),h.aI tn (JW 1),h.aI tn (JW 2),h.aI tn (JW 3),h.aI tn (JW 4),h.aI pl (GY 0),h.aI pl (GY 1),h.aI pl (GY 2),h.aI pl (GY 3),h.aI pl (GY 4),h.aI pl (GY 5)⟩);clear JW GY jn Gw;go_cut [15,16] (λcD fZ cj=>∃(g3:aa)(a b c:J),cD=ah xR/\fZ= .pointer (some (g3,0))/\aB cj g3 37 #[ah sc,a,b,c]/\lV sc cn d N7 a b c/\Kept wr cj)
    case first=>
     go_region_held3 (λX=>Kept wr X/\aU X (w,0)=some (.string aM)/\aU X (w,1)=some (ah ms)/\aU X (w,2)=some (ae jf AN jo)/\aU X (w,3)=some (ae hT dz ij)/\aU X (w,4)=some (ae eR n rc)/\aU X (P,0)=some (ah E.dt)/\aU X (P,1)=some (ae dm E.ins aY)/\aU X (P,2)=some (ae (some (D,0)) dz dz)/\aU X (P,3)=some (ae dq E.ms bu)/\aU X (P,4)=some (ae fr E.mt b4)/\aU X (P,5)=some (ae e6 E.tb b_))
      ((refine eF _ ?_;(with_reducible repeat (first|exact .refl _|assumption|refine .drew ?_|refine .alloc ?_ _|refine .setCell ?_ (by simp only;omega) _|refine .trans ?_ ‹Kept _ _›))))
      ((go_at_call 60;refine (o' _ ?_).mono ?_;(·(with_reducible first|exact (aG _).drew|exact (aG _).aZ.drew));rintro e w'⟨Al,ik,l2,rfl,pr,iz⟩;have HQE:=I pr;clear pr;(try (have cd:=aB.kept (aB.drew (aB.new wr 37 #[(),(),(),()])) iz;have jL:=cd.cell;have mA:=cd.frozen;have uW:=cd.lt));have oR:=Below.size iz;(try simp at oR)))
     .go_wp2_with fail
      go_meet
      case rel=>exact⟨_,Al,ik,l2,rfl,rfl,aB.new w' 37 _,HQE,Kept.alloc (Kept.trans (Kept.drew (aG _)) iz) _⟩
     .go_wp2_with fail
      go_meet
      case rel=>
       have jm:Kept wr w':=Kept.trans (Kept.drew (Kept.alloc (aG _) _)) iz;refine⟨_,Al,ik,l2,rfl,rfl,(((cd.ba 0 (ah sc)).ba 1 Al).ba 2 ik).ba 3 (ah l2),HQE,?_⟩;refine Kept.setCell (Kept.setCell (Kept.setCell (Kept.setCell jm ?_ _) ?_ _) ?_ _) ?_ _<;>exact bB _
    case rest=>
     obtain⟨g3,a,b,c,rfl,rfl,U1,Cv,M4⟩:=hcut;have uE:=I Cv;clear Cv;generalize wc=jU at*;have oE:=I (kg.keep M4);obtain⟨auV,Ta⟩:=U1.p;have VO:=oE.ik.cell;have VP:=oE.ik.frozen;have VQ:=oE.ik.lt;have agy:=I U1;have HT:=I (λ(cK aY a' bu:ak)=>((((oE.two.oA oE.a1 0 cK).oA oE.a1 1 aY).oA oE.a1 2 a').oA oE.a1 3 bu));have HY:=I (λ(cK aY a' bu:ak)=>((((oE.ik.ba 0 cK).ba 1 aY).ba 2 a').ba 3 bu).cell);clear U1 eF;by_cases nL:sc=0
     .subst nL;have KQ:=aex (Lf:=cz) (E:={E with ds:=ds}) (rs:=x.rs) (d:=(d:J)) (by rw[wZ]);rw[wZ]at KQ;simp only at KQ;rcases KQ with ab|ab|⟨k,ab,l8⟩
      .subst ab;have n5:=I (OX 10 (-1) rfl (ao5 (by rw[wZ]) (by rw[wZ])) (by omega));go_wp2_with fail
       have Z:=HY.out (ah 10) cn d (ah (-1));exact bI (v:=bj #[bf,aF #[ah 10,cn,d,ah (-1)]]) (by simp[results,results34,go_sem,Z]) rfl (VS n5 (by omega) (HT (ah 10) cn d (ah (-1))))
      .subst ab;have n5:=I (OX 11 (-1) rfl (ao8 (by rw[wZ]) (by rw[wZ])) (by omega));go_wp2_with fail
       have Z:=HY.out (ah 11) cn d (ah (-1));exact bI (v:=bj #[bf,aF #[ah 11,cn,d,ah (-1)]]) (by simp[results,results34,go_sem,Z]) rfl (VS n5 (by omega) (HT (ah 11) cn d (ah (-1))))
      .subst ab;rw[b3]at l8;have akg:(k:J)<n:=by omega
       have wa:((k:J)== -1)=false:=by simp
       have jm:((k:J)== -2)=false:=by simp
       have sl8:=oE.kL.lt;have aev:=oE.kL.cell;have G0:=oE.j1.lt;have GZ:=oE.j1.cell;have hF8:=bM.out jU oE.two;obtain⟨iv8,dv8,rv8,acK,-,-,akV⟩:=hF8.1;simp only[x4,x7,qk,kN]at acK;obtain⟨-,-,-,-,rfl⟩:=acK;obtain⟨UR,YX,y',-,-,lI⟩:=akV;rw[b3]at y' lI;simp only[i_]at y';obtain⟨rfl,-,rfl⟩:=y';obtain⟨ej,ro,rfl,gq,kH⟩:=lI (by omega);have fu:k<x.rs.length:=by have:=b3.out;omega
       have jl:x.rs[k]?=some x.rs[k]:=bn fu;obtain⟨-,-,-,-,-,-,-,⟨sY,yb,oo⟩,-⟩:=kH _ _ jl;unfold g' at yb;have vP:=I (ao9 (Lf:=cz) (E:={E with ds:=ds}) (rs:=x.rs) (d:=(d:J)) (by rw[wZ]) (by rw[wZ]) jl);generalize x.rs[k]=r at*;obtain⟨l2,rm,bs,fc,Ar⟩:∃l2 rm bs fc,hW cz {E with ds:=ds} r.v=(⟨l2,rm,bs⟩,fc):=⟨_,_,_,_,rfl⟩;rw[Ar]at vP;have mi:=I (λw1(ai:Kept jU w1)=>(by
        have h:=af2.out w1 sY (aF #[E.dt,ae dm E.ins aY,ae (some (D,0)) dz dz,ae dq E.ms bu,ae fr E.mt b4,ae e6 E.tb b_]) r.v {E with ds:=ds} (oE.two.trans (Two.ky ai) (.inl rfl)) (oo.kept ai) (af3.kept (M4.trans ai));rwa [Ar]at h:bg 61 #[sY,aF #[E.dt,ae dm E.ins aY,ae (some (D,0)) dz dz,ae dq E.ms bu,ae fr E.mt b4,ae e6 E.tb b_]] w1 (hA (⟨l2,rm,bs⟩,fc) w1)))
       obtain⟨gx,eT,rfl,-⟩:=oo.1.at_;generalize r.v.length=hv at*;clear kH lI oo hF8 jl Ar;go_upto_region 16 with fail
       clear auV Ta agy;have eF:=I (show∀X,Kept jU X->Kept jU X/\aU X (w,4)=some (ae (some (ej,ro)) n rc)/\aU X (P,0)=some (ah E.dt)/\aU X (P,1)=some (ae dm E.ins aY)/\aU X (P,2)=some (ae (some (D,0)) dz dz)/\aU X (P,3)=some (ae dq E.ms bu)/\aU X (P,4)=some (ae fr E.mt b4)/\aU X (P,5)=some (ae e6 E.tb b_)/\aU X (ej,ro+k*9+7)=some (ae gx hv eT)from λX h=>(by have YW:=gq;exact⟨h,h.aI sl8 (aev 4),h.aI G0 (GZ 0),h.aI G0 (GZ 1),h.aI G0 (GZ 2),h.aI G0 (GZ 3),h.aI G0 (GZ 4),h.aI G0 (GZ 5),h.aI YW yb⟩));clear aev GZ yb;go_cut [17,18] (λfZ atB cj=>∃(g4:aa),fZ= .pointer (some (g4,0))/\atB=ah fc/\aB cj g4 34 #[ah l2,ah rm,ah bs]/\Kept jU cj)
       case first=>
        go_region_held3 (λX=>Kept jU X/\aU X (w,4)=some (ae (some (ej,ro)) n rc)/\aU X (P,0)=some (ah E.dt)/\aU X (P,1)=some (ae dm E.ins aY)/\aU X (P,2)=some (ae (some (D,0)) dz dz)/\aU X (P,3)=some (ae dq E.ms bu)/\aU X (P,4)=some (ae fr E.mt b4)/\aU X (P,5)=some (ae e6 E.tb b_)/\aU X (ej,ro+k*9+7)=some (ae gx hv eT))
         ((refine eF _ ?_;(with_reducible repeat (first|exact .refl _|assumption|refine .drew ?_|refine .alloc ?_ _|refine .setCell ?_ (by simp only;omega) _|refine .trans ?_ ‹Kept _ _›))))
         ((go_at_call 61;refine (mi _ ?_).mono ?_;(·(with_reducible first|exact (aG _).drew|exact (aG _).aZ.drew));rintro e w'⟨rfl,iz⟩;(try (have cd:=aB.kept (aB.drew (aB.new jU 34 #[(),(),()])) iz;have jL:=cd.cell;have mA:=cd.frozen;have uW:=cd.lt));have oR:=Below.size iz;(try simp at oR)))
        .go_wp2_with fail
         go_meet
         case rel=>exact⟨_,rfl,rfl,aB.new w' 34 _,Kept.alloc (Kept.trans (Kept.drew (aG _)) iz) _⟩
        .go_wp2_with fail
         go_meet
         case rel=>
          have jm:Kept jU w':=Kept.trans (Kept.drew (Kept.alloc (aG _) _)) iz;refine⟨_,rfl,rfl,((cd.ba 0 (ah l2)).ba 1 (ah rm)).ba 2 (ah bs),?_⟩;refine Kept.setCell (Kept.setCell (Kept.setCell jm ?_ _) ?_ _) ?_ _<;>exact bB _
       case rest=>
        obtain⟨g4,rfl,rfl,PH,M5⟩:=hcut;generalize wc=xf at*;have n4:=I (oE.keep M5);clear eF mi oE HT HY VO VP VQ;obtain⟨vbc,vbl⟩:=PH.p;have HVB:=I PH;clear PH;by_cases pY:fc=0
        .have n5:=I (agk _ _ rfl (vP.2 pY));rw[c7]at n5;subst pY;have pl9:=n4.j1.lt;have pc9:=n4.j1.cell;have II:=n4.vX.lt;have df9:=n4.vX.frozen;obtain⟨eU,dr,eV,IF,IG,BR⟩:=aqz n4.vX (d:=d) (by rw[n4.dl];exact rq);go_wp2_with fail
         go_region
         have bw:=(n4.aoO rq ⟨l2,rm,bs⟩).keep (Kept.drew (aG _));dsimp only at bw;generalize (((xf.setCell ⟨D,d*3,none⟩ (ah l2)).setCell ⟨D,d*3+1,none⟩ (ah rm)).setCell ⟨D,d*3+2,none⟩ (ah bs)).drew=W10 at bw⊢;have Fj:=I bw;clear bw;have rc5:=Fj.ej.cell d;rw[AI (by rw[Fj.JT];exact rq)]at rc5;have rl5:=Fj.ej.lt;have rf5:=Fj.ej.frozen d;have HL6:=I (Fj.mD d k);go_wp2_with fail
         go_roundw
         case rel=>first
          |exact⟨i+1,_,_,by go_num,aN,HL6,n5⟩
          |((repeat apply Exists.intro);exact⟨⟨i+1,_,_,by go_num,aN,HL6,n5⟩,rfl⟩)
         case measure=>simp[intOf]<;>omega
        .have n5:=I (OX fc k rfl (vP.1 pY) pY);have jv:(fc !=0)=true:=by simpa using pY
         have VO:=n4.ik.cell;have VP:=n4.ik.frozen;have VQ:=n4.ik.lt;have HT:=I (λ(cK aY a' bu:ak)=>((((n4.two.oA n4.a1 0 cK).oA n4.a1 1 aY).oA n4.a1 2 a').oA n4.a1 3 bu));have HY:=I (λ(cK aY a' bu:ak)=>((((n4.ik.ba 0 cK).ba 1 aY).ba 2 a').ba 3 bu).cell);clear vbc vbl M4 M5 l8 akg wa jm gq fu sl8 G0 tn pl hog l_ dG aN db Ea Aq rq Cf y3 ae1 szR pY Cw HVB n4;go_upto_region 18 with fail
         iterate 27 (first|go_step|go_upon)
         have Z:=HY.out (ah fc) cn d k;exact bI (v:=bj #[bf,aF #[ah fc,cn,d,k]]) (by simp[results,results34,go_sem,Z]) rfl (VS n5 (by simpa using jv) (HT (ah fc) cn d k))
     .have jv:(sc !=0)=true:=by simpa using nL
      have n5:=I (OX sc N7 rfl (by rw[ao7 (by rw[wZ];exact nL),wZ]) nL);go_wp2_with fail
      go_region
      go_wp2_with fail
      have Z:=HY.out (ah sc) a b c;exact bI (v:=bj #[bf,aF #[ah sc,a,b,c]]) (by simp[results,results34,go_sem,Z]) rfl (ai2 n5 nL uE ((HT (ah sc) a b c).trans (Two.ky (Kept.drew (aG _))) (.inl rfl)))
  .obtain rfl:i=dz:=by omega
   have db:¬((i:J)<i):=by omega
   rw[vD (by have:=Pa.out;omega),lN]at a6;subst a6;have VO:=bE.ik.cell;have VP:=bE.ik.frozen;have VQ:=bE.ik.lt;have kg:=I bE;clear bE;go_wp2_with fail
   have Z:=((((kg.ik.ba 0 ()).ba 1 ()).ba 2 ()).ba 3 ()).cell;refine bI (v:=bj #[ae (some (fs,0)) i i,aF #[(),(),(),()]]) (by simp[results,results34,go_sem,Z]) rfl ?_;exact ai3 cn kg
end Go.Proofs.YtilhklpfkgbikaaGreatDoor
