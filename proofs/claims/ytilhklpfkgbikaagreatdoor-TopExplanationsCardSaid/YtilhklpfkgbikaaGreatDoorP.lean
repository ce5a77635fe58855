import Derived.Test.YtilhklpfkgbikaaGreatDoorO
import Derived.Deep.LoopGhost
set_option linter.all false
namespace Go.Proofs.YtilhklpfkgbikaaGreatDoor
open Go.RowKit Go.Proofs.Tryz
set_option maxRecDepth 100000
set_option maxHeartbeats 16000000
def nk(d:J)(l:List br):aa:=(l.filter λr=>decide (r.bx=d)).length
def Qe{d:J}{l:List br}{j:aa}{r:br}(h:l[j]?=some r):nk d (l.take (j+1))=nk d (l.take j)+if r.bx=d then 1 else 0:=by
 obtain⟨ay,rfl⟩:=b2 h;unfold nk;rw[Ho ay,x8,fk,sA,Ke];by_cases aE:(l[j]).bx=d<;>simp[aE]
def abn{d:J}{l:List br}{j:aa}:nk d (l.take j)<=j:=by
 unfold nk;exact fN (nX _ _) (by rw[gT];omega)
def yv(s:cq)(i:aa)(r:br):Prop:=r.bJ= -1\/(0<=r.bJ/\r.bJ<i/\∀p,s.rs[r.bJ.toNat]?=some p->p.bx=r.bx)
structure xd(iD:kj)(s:cq)(i:aa)(r:br):Prop where
 id:nP (L r.aM)=true
 zn:fV r.aM ((s.rs.take i).map (·.aM))=false
 bx:0<=r.bx/\r.bx<s.ds.length
 bJ:yv s i r
 d_:0<=r.d_/\r.d_<=9
 qd:0<=r.cZ/\r.cZ<r.cT/\r.cT<=109573
 fS:nk r.bx (s.rs.take i)<8
 xR:Oa r.src=true
 DU:0<r.g.length->nT iD r.g=(⟨1,0⟩,0)
 hv:∀f,s.ds[r.bx.toNat]?=some f->nT iD r.v=(kq f,0)
def ahP(b7 dy cD cH:ak)(s:cq)(iD:kj)(i:aa)(r:br)(w:ag)(b6:c0 3 jt w b7 s.ins)(cY:c0 3 jt w dy s.ds)(l5:c0 9 lz w cD s.rs)(bH:qv w cH iD)(aC:s.rs[i]?=some r):
  bg 121 #[aF #[s.aM,s.ms,b7,dy,cD],i,cH] w (lg (xd iD s i r) w):=by
 have fB:=(b2 aC).1;obtain⟨sC,sV,rfl,y2,hnr,hxr⟩:=id l5;have Bf:=I (λg w1(h:Kept w w1)(cd:ly w1 g 0 r.aM)=>(by
  have ab:c0 9 lz w1 (ae sC i sV) (s.rs.take i):=by
   have ad:=l5.kept lz.kept h;obtain⟨pH,fF,he,-,-,Nq⟩:=ad
   cases he;refine⟨sC,sV,by rw[gT,x5 (by omega)],by rw[gT];omega,by rw[gT];omega,λhp=> ?_⟩;rw[gT]at hp;obtain⟨b,off,a7,af,aq⟩:=Nq (by omega);refine⟨b,off,a7,af,λj x ay=>aq j x ?_⟩;rw[Tl]at ay;split at ay
   .exact ay
   .cases ay
  exact aiD _ _ g 0 r.aM w1 ab cd:bg 146 #[ae sC i sV,.func (.func 147) #[] #[.pointer (some ⟨g,0,none⟩)]] w1 (fo (fV r.aM ((s.rs.take i).map (·.aM))) w1)))
 unfold fo at Bf;obtain⟨b,off,rfl,af,aq⟩:=hxr (by omega);obtain⟨⟨cK,ir⟩,⟨aY,c9⟩,⟨a',bW⟩,⟨bu,j8⟩,⟨b4,ee⟩,⟨b_,fm⟩,⟨_,dn,al⟩,⟨_,mr,aK⟩,⟨hV,XF⟩⟩:=aq i _ aC;have eQ:=I (λw1(h:Kept w w1)=>abc _ r.g cH iD 1 0 w1 (al.kept h) (bH.kept h));have fE:=I (λgH gB w1(h:Kept w w1)=>abc _ r.v cH iD gH gB w1 (aK.kept h) (bH.kept h));unfold lg at eQ fE;obtain⟨gC,gc,rfl,-⟩:=al.1.at_;obtain⟨gx,eT,rfl,-⟩:=aK.1.at_;have yh:=I (λw1=>Nv r.aM ir w1);have KR:=I (λw1=>aqx r.src w1 XF);unfold fo at KR;obtain⟨jf,jo,rfl,-⟩:=b6;obtain⟨hT,ij,rfl,-,iA,hxd⟩:=cY;obtain⟨c5,ce,cV,cX,eh,ci,kO,cF,ff,lh,rfl,-⟩:=bH.form;obtain⟨Q,cL⟩:∃Q,Q=xd iD s i r:=⟨_,rfl⟩;rw[<-cL];have b1:=I cL;unfold g' at cK aY a' bu b4 b_ dn mr hV;have db:(i:J)<s.rs.length:=by omega
 have hi9:(i:J)<=sV:=by omega
 have ct:=I aq;have UA:=I hxd;have q7:=I aC;generalize s5:r.g.length=r' at*;generalize r.v.length=hv at*;generalize Cn:s.rs.length=jb at*;generalize s.ins.length=cC at*;generalize y7:s.ds.length=ei at*;generalize iD.ms.length=dS at*;generalize iD.tb.length=dd at*;generalize iD.ins.length=avB at*;generalize iD.ds.length=avC at*;generalize iD.md.length=eE at*;clear l5 hxr bH al aK cL aq hxd aC;go_enter func121,ntmps121
 go_upto_region 2 with fail
 generalize aL:((w.alloc _).alloc _).alloc _=W at*;obtain⟨bp,bh,bm,cP⟩:=Kept.cv aL;clear aL;obtain⟨Va,Vc⟩:=bh.p;have e3:=I (λw1(h:Kept W w1)=>bh.kept h);have eA:=I (λw1(h:Kept W w1)=>bm.kept h);have mh:=I (λw1(h:Kept W w1)=>cP.kept h);clear bh bm cP;go_wp2_with fail
 clear Va Vc;go_loopw [8,22] (λz y wr=>∃j:aa,y=ah j/\z=ah (nk r.bx (s.rs.take j))/\j<=i/\Kept W wr) (λ_ y _=>i-(intOf y).toNat)
 case atStart=>exact⟨0,rfl,rfl,d' _,aG _⟩
 case round=>
  obtain⟨j,rfl,rfl,hH,ax⟩:=hrel;by_cases aN:j<i
  .have al:s.rs[j]?=some (s.rs[j]'(by omega)):=bn _;obtain⟨⟨d0,-⟩,⟨d1,-⟩,⟨d2,-⟩,⟨d3,-⟩,⟨d4,-⟩,⟨d5,-⟩,⟨_,d6,⟨⟨au1,DU,rfl,-⟩,-⟩⟩,⟨_,d7,⟨⟨PH,qd,rfl,-⟩,-⟩⟩,⟨d8,-⟩⟩:=ct.out j _ al;unfold g' at d0 d1 d2 d3 d4 d5 d6 d7 d8;have fl:=I (Qe (d:=r.bx) al);have oO:nk r.bx (s.rs.take j)<=j:=abn;generalize s.rs[j]'(by omega)=x at*;generalize x.g.length=xgl at*;generalize x.v.length=xvl at*;have en:=bp.trans ax;replace d0:=en.aI af d0;replace d1:=en.aI af d1;replace d2:=en.aI af d2;replace d3:=en.aI af d3;replace d4:=en.aI af d4;replace d5:=en.aI af d5;replace d6:=en.aI af d6;replace d7:=en.aI af d7;replace d8:=en.aI af d8;have mw:=bG af en.size;have cv:=(mh _ ax).cell 1;have m3:=(mh _ ax).lt;have kT:(j:J)<i:=by omega
   generalize nk r.bx (s.rs.take j)=LM at*;have arQ:(LM:J)+1<=9223372036854775807:=by omega
   clear al en;by_cases aE:x.bx=r.bx
   .have tU:(x.bx==r.bx)=true:=by simpa using aE
    have HR:=I (show nk r.bx (s.rs.take (j+1))=LM+1 by rw[fl,aP aE]);clear aE;go_wp2_with fail
    go_roundw
    case rel=>exact⟨j+1,by go_num,by rw[HR];go_num,aN,ax.alloc _⟩
    case measure=>simp[intOf];omega
   .have tU:(x.bx==r.bx)=false:=by simpa using aE
    have HR:=I (show nk r.bx (s.rs.take (j+1))=LM by rw[fl,aw aE];rfl);clear aE;go_wp2_with fail
    go_roundw
    case rel=>exact⟨j+1,by go_num,by rw[HR],aN,ax.alloc _⟩
    case measure=>simp[intOf];omega
  .obtain rfl:j=i:=by omega
   have kT:¬((j:J)<j):=by omega
   have oO:nk r.bx (s.rs.take j)<=j:=abn;generalize uR:nk r.bx (s.rs.take j)=LM at*;have HC:=I uR;clear uR;have e':=I (λ(c:J)(aq:c≠0)(h:¬xd iD s j r)=>(show c=0↔Q from⟨λe=>absurd e aq,λq=>absurd (b1▸q) h⟩));have ca:=bp.trans ax;have aQ:=(e3 _ ax).cell;have m1:=(e3 _ ax).lt;have cv:=(mh _ ax).cell;have m3:=(mh _ ax).lt
   cases jn:nP (L r.aM)
   .rw[jn]at yh;go_wp2_with (go_at_call 82;refine (yh _).mono ?_;rintro e w1⟨rfl,rfl⟩)
    go_ret;exact lg.mk (e' 2 (by decide) (λh=>by have:=h.id;rw[jn]at this;cases this)) ca
   rw[jn]at yh;go_upto_region 11 with (go_at_call 82;refine (yh _).mono ?_;rintro e w1⟨rfl,rfl⟩)
   have HM:=I (show ly wr (w.heap.size+1+1) 0 r.aM from⟨m3,cv 0⟩)
   cases iX:fV r.aM ((s.rs.take j).map (·.aM))
   case true=>
    rw[iX]at Bf;go_wp2_with (go_at_call 146;refine (Bf _ _ ca HM).mono ?_;rintro e w1⟨rfl,au⟩)
    go_ret;exact lg.mk (e' 7 (by decide) (λh=>by have:=h.zn;rw[iX]at this;cases this)) (ca.trans au)
   rw[iX]at Bf;go_upto_region 13 with (go_at_call 146;refine (Bf _ _ ca HM).mono ?_;rintro e w1⟨rfl,au⟩)
   have c3:=ca.trans au;have bt:=ax.trans au;clear aQ m1 cv m3;have aQ:=(e3 _ bt).cell;have m1:=(e3 _ bt).lt;have cv:=(mh _ bt).cell;have m3:=(mh _ bt).lt;clear Bf yh HM ca ax;by_cases ao:r.bx<0
   .go_wp2_with fail
    go_ret;exact lg.mk (e' 6 (by decide) (λh=>by have:=h.bx;omega)) c3
   by_cases h3b:(ei:J)<=r.bx
   .go_wp2_with fail
    go_ret;exact lg.mk (e' 6 (by decide) (λh=>by have:=h.bx;omega)) c3
   go_upto_region 15 with fail
   go_cut [58] (λz cj=>∃dk:Bool,z=bR dk/\Kept w1 cj/\(dk=false↔yv s j r))
   case first=>
    by_cases hp:r.bJ= -1
    .have rz:(r.bJ != -1)=false:=by simpa using hp
     have bM:Hid (yv s j r):=I (Or.inl hp);clear hp;go_region
     go_wp2_with fail
     go_meet;exact⟨false,rfl,(aG _).drew,λ_=>bM,λ_=>rfl⟩
    have rz:(r.bJ != -1)=true:=by simpa using hp
    by_cases xy:r.bJ<0
    .have bM:Hid (¬yv s j r):=I (λh=>by unfold yv at h;omega);clear hp;go_region
     go_wp2_with fail
     go_meet;exact⟨true,rfl,(aG _).drew,(λh=>by cases h),λh=>absurd h bM⟩
    by_cases s8:(j:J)<=r.bJ
    .have bM:Hid (¬yv s j r):=I (λh=>by unfold yv at h;omega);clear hp;go_region
     go_wp2_with fail
     go_meet;exact⟨true,rfl,(aG _).drew,(λh=>by cases h),λh=>absurd h bM⟩
    obtain⟨k,ai⟩:∃k:aa,r.bJ=k:=⟨r.bJ.toNat,by omega⟩;have l8:k<s.rs.length:=by omega
    have al:s.rs[k]?=some s.rs[k]:=bn l8;obtain⟨-,⟨d1,-⟩,-⟩:=ct.out k _ al;unfold g' at d1;have uC:Hid (yv s j r↔s.rs[k].bx=r.bx):=I (by
     unfold yv;rw[ai,c7,al];simp;omega)
    have lF:(k:J)<jb:=by omega
    generalize s.rs[k].bx=NZ at*;have mw:=bG af c3.size;replace d1:=c3.aI af d1;rw[ai]at rz xy s8 cv;clear hp al;by_cases aE:NZ=r.bx
    .have tU:(NZ !=r.bx)=false:=by simpa using aE
     have bM:Hid (yv s j r):=I (uC.2 aE);clear aE uC;go_region
     go_wp2_with fail
     go_meet;exact⟨false,rfl,(aG _).drew,λ_=>bM,λ_=>rfl⟩
    .have tU:(NZ !=r.bx)=true:=by simpa using aE
     have bM:Hid (¬yv s j r):=I (λh=>aE (uC.1 h));clear aE uC;go_region
     go_wp2_with fail
     go_meet;exact⟨true,rfl,(aG _).drew,(λh=>by cases h),λh=>absurd h bM⟩
   case rest=>
    obtain⟨dk,rfl,ck,p3⟩:=hcut;have HQ4:=I p3;clear p3;have eB:=c3.trans ck;have cy:=bt.trans ck;clear aQ m1 cv m3 au bt c3;have aQ:=(e3 _ cy).cell;have m1:=(e3 _ cy).lt;have cv:=(mh _ cy).cell;have m3:=(mh _ cy).lt
    cases dk
    case true=>
     go_wp2_with fail
     go_ret;exact lg.mk (e' 9 (by decide) (λh=>absurd (HQ4.2 h.bJ) (by decide))) eB
    by_cases bw:r.d_<0
    .go_wp2_with fail
     go_ret;exact lg.mk (e' 3 (by decide) (λh=>by have:=h.d_;omega)) eB
    by_cases h5b:9<r.d_
    .go_wp2_with fail
     go_ret;exact lg.mk (e' 3 (by decide) (λh=>by have:=h.d_;omega)) eB
    go_upto_region 19 with fail
    by_cases eL:r.cZ<0
    .go_wp2_with fail
     go_ret;exact lg.mk (e' 3 (by decide) (λh=>by have:=h.qd;omega)) eB
    by_cases h6b:r.cT<=r.cZ
    .go_wp2_with fail
     go_ret;exact lg.mk (e' 3 (by decide) (λh=>by have:=h.qd;omega)) eB
    by_cases h6c:109573<r.cT
    .go_wp2_with fail
     go_ret;exact lg.mk (e' 3 (by decide) (λh=>by have:=h.qd;omega)) eB
    go_upto_region 21 with fail
    by_cases hX:(8:J)<=LM
    .go_wp2_with fail
     go_ret;exact lg.mk (e' 4 (by decide) (λh=>by have:=h.fS;rw[HC]at this;omega)) eB
    go_upto_region 23 with fail
    cases Ry:Oa r.src
    .rw[Ry]at KR;go_wp2_with (go_at_call 148;refine (KR _).mono ?_;rintro e c4⟨rfl,ey⟩)
     go_ret;exact lg.mk (e' 2 (by decide) (λh=>by have:=h.xR;rw[Ry]at this;cases this)) (eB.trans ey)
    rw[Ry]at KR;go_upto_region 25 with (go_at_call 148;refine (KR _).mono ?_;rintro e c4⟨rfl,ey⟩)
    have la:=eB.trans ey;have sn:=cy.trans ey;clear aQ m1 cv m3 ck cy ey eB;have aQ:=(e3 _ sn).cell;have m1:=(e3 _ sn).lt;have a_:=(eA _ sn).cell;have m2:=(eA _ sn).lt;have cv:=(mh _ sn).cell;have m3:=(mh _ sn).lt;obtain⟨k,ai⟩:∃k:aa,r.bx=k:=⟨r.bx.toNat,by omega⟩;have l8:k<s.ds.length:=by omega
    obtain⟨vX,aru,rfl,tU,MP⟩:=UA.out (by omega);have Rf:s.ds[k]?=some s.ds[k]:=bn l8;obtain⟨-,⟨f1,-⟩,⟨f2,-⟩⟩:=MP k _ Rf;unfold g' at f1 f2;have UB:=I (λ(xo:0<r.g.length->nT iD r.g=(⟨1,0⟩,0))(c:J)(aq:c=0↔nT iD r.v=(⟨s.ds[k].k,s.ds[k].e⟩,0))=>(show c=0↔Q by
     rw[aq,b1];constructor
     .intro h;exact⟨jn,iX,by omega,HQ4.1 trivial,by omega,by omega,by rw[HC];omega,Ry,xo,λf bV=>by rw[ai,c7,Rf]at bV;obtain rfl:=cJ bV;exact h⟩
     .intro h;exact h.hv _ (by rw[ai,c7];exact Rf)))
    generalize s.ds[k].k=uO at*;generalize s.ds[k].e=BY at*;have cp:=I ai;have lF:(k:J)<ei:=by omega
    have OY:=I s5;clear Rf MP ai s5;by_cases xo:0<r'
    case' pos=>
     have h9i:(0:J)<r':=by omega
     go_upto_region 27 with (go_at_call 149;refine (eQ _ la).mono ?_;rintro e dc⟨ri,rfl,hc9,te⟩)
     have HC9:=I hc9;clear hc9;by_cases QF:ri=0
     case neg=>
      have ary:(ri !=0)=true:=by simpa using QF
      go_wp2_with fail
      go_ret;exact lg.mk (e' ri QF (λh=>QF (HC9.2 (h.DU (by rw[OY];exact xo))))) (la.trans te)
     subst QF;have q4:Hid (0<r.g.length->nT iD r.g=(⟨1,0⟩,0)):=I (λ_=>HC9.1 rfl);have K6:=la.trans te;have JA:=sn.trans te;clear aQ m1 a_ m2 cv m3 te la sn;go_upto_region 29 with fail
     generalize dc=jU at*
    case' neg=>
     have h9i:¬((0:J)<r'):=by omega
     have q4:Hid (0<r.g.length->nT iD r.g=(⟨1,0⟩,0)):=I (λh=>absurd h (by rw[OY];exact xo));have K6:=la;have JA:=sn;go_upto_region 29 with fail
     clear aQ m1 a_ m2 cv m3 la sn;generalize c4=jU at*
    all_goals
     have dr:=e3.out _ JA;have eV:=eA.out _ JA;have jP:=mh.out _ JA;have z3:=aS.cell dr.lt (dr.cell 3);have u0:=aS.cell eV.lt (eV.cell 0);have u1:=aS.cell eV.lt (eV.cell 1);have u2:=aS.cell eV.lt (eV.cell 2);have u3:=aS.cell eV.lt (eV.cell 3);have u4:=aS.cell eV.lt (eV.cell 4);have u5:=aS.cell eV.lt (eV.cell 5);have v1:=aS.cell jP.lt (jP.cell 1);have xU:=aS.cell jP.lt (jP.cell 7);have hdw:=bG tU K6.size;have g1:=aS.cell hdw (K6.aI tU f1);have g2:=aS.cell hdw (K6.aI tU f2);simp only[cp.out]at v1;refine wH 10 (by kernel_rfl) (by kernel_rfl) ?_;simp only[sz,q0,vE,rS]
     repeat (go_big_quiet_step (fail))
     refine f' ?_;rintro lP⟨⟨cj,eX⟩,aT⟩;obtain rfl:lP=cj:=aT;clear z3 u0 u1 u2 u3 u4 u5 v1 xU g1 g2 dr eV jP;have atq:=K6.trans eX;go_wp2_with (go_at_call 149;refine (fE uO BY _ atq).mono ?_;rintro e xW⟨c,rfl,aq,te⟩;have OU:=I aq)
     go_ret;exact lg.mk (UB q4 c OU) (atq.trans te)
def A2(a b:J):Bool:=decide (0<=a)&&(decide (a<=b)&&decide (b<=109573))
def aqB(a b:J):(A2 a b=false/\a<0)\/(A2 a b=false/\0<=a/\b<a)\/(A2 a b=false/\0<=a/\a<=b/\109573<b)\/(A2 a b=true/\0<=a/\a<=b/\b<=109573):=by
 unfold A2;by_cases ab:0<=a<;>by_cases ad:a<=b<;>by_cases ao:b<=109573<;>simp[ab,ad,ao]<;>omega
def VI(a b:J)(w:ag):
  bg 106 #[aF #[a,b]] w λe w'=>e=bL (bR (A2 a b))/\Kept w w':=by
 rcases aqB a b with⟨h,ab⟩|⟨h,ab,ad⟩|⟨h,ab,ad,ao⟩|⟨h,ab,ad,ao⟩
 all_goals
  have aX:=I h;clear h;go_enter func106,ntmps106
  go_wp2_with fail
  go_ret;exact⟨fG (by first|exact aX.symm|(rw[aX,gg];exact ao)|(rw[aX,vC];omega)),(aG _).alloc _⟩
def Ce(a b:J):Bool:=A2 a b&&decide (a<b)
def Gh(a b:J)(w:ag):
  bg 161 #[aF #[a,b]] w λe w'=>e=bL (bR (Ce a b))/\Kept w w':=by
 cases aK:A2 a b
 .have aX:=I (show Ce a b=false by rw[Ce,aK];rfl);go_enter func161,ntmps161
  go_wp2_with (go_at_call 106;refine (VI _ _ _).mono ?_;rintro e w'⟨rfl,ai⟩;rw[aK])
  go_ret;exact⟨fG aX.symm,((aG _).alloc _).trans ai⟩
 .have aX:=I (show Ce a b=decide (a<b) by rw[Ce,aK];rfl);go_enter func161,ntmps161
  go_wp2_with (go_at_call 106;refine (VI _ _ _).mono ?_;rintro e w'⟨rfl,ai⟩;rw[aK];have WM:=ai.ahC.1;have cK:=WM 0;have aY:=WM 1;simp only[hL,iP,jd]at cK aY;clear WM)
  go_ret;exact⟨fG aX.symm,((aG _).alloc _).trans ai⟩
def mW(a b c d:J):J×J×Bool:=if Ce a b&&(Ce c d&&decide (max a c<min b d))then (max a c,min b d,true)else (0,0,false)
def amR(a c:J):(a<c/\max a c=c)\/(c<=a/\max a c=a):=by omega
def amK(b d:J):(d<b/\min b d=d)\/(b<=d/\min b d=b):=by omega
def alF(a b c d:J)(w:ag):
  bg 138 #[aF #[a,b],aF #[c,d]] w λe w'=>e=bL (bj #[aF #[ah (mW a b c d).1,ah (mW a b c d).2.1],bR (mW a b c d).2.2])/\Kept w w':=by
 cases ab:Ce a b
 .have aX:=I (show mW a b c d=(0,0,false) by rw[mW,ab];rfl);go_enter func138,ntmps138
  go_wp2_with fail
  refine (Gh _ _ _).mono ?_;rintro e w1⟨rfl,au⟩;rw[ab];obtain⟨bo,bh,bm⟩:=au.xh;have c9:=bh.cell;obtain⟨bW,b5,f2⟩:=bm.q;go_wp2_with fail
  refine bI (v:=bj #[aF #[ah (mW a b c d).1,ah (mW a b c d).2.1],bR (mW a b c d).2.2]) (by rw[aX];simp[results,results138,go_sem,bW]) rfl ⟨rfl,?_⟩
  repeat refine Kept.setCell ?_ (by simp only;omega) _
  exact (((aG _).alloc _).alloc _).alloc _|>.trans au
 .cases ad:Ce c d
  .have aX:=I (show mW a b c d=(0,0,false) by rw[mW,ab,ad];rfl);go_enter func138,ntmps138
   go_wp2_with fail
   refine (Gh _ _ _).mono ?_;rintro e w1⟨rfl,au⟩;rw[ab];obtain⟨bo,bh,bm⟩:=au.xh;have c9:=bh.cell;go_wp2_with fail
   refine (Gh _ _ _).mono ?_;rintro e w2⟨rfl,bt⟩;rw[ad];clear c9;replace bm:=bm.kept bt;obtain⟨bW,b5,f2⟩:=bm.q;go_wp2_with fail
   refine bI (v:=bj #[aF #[ah (mW a b c d).1,ah (mW a b c d).2.1],bR (mW a b c d).2.2]) (by rw[aX];simp[results,results138,go_sem,bW]) rfl ⟨rfl,?_⟩
   repeat refine Kept.setCell ?_ (by simp only;omega) _
   exact ((((aG _).alloc _).alloc _).alloc _|>.trans au).trans bt
  .have n5:∀x y,max a c=x->min b d=y->x<y->mW a b c d=(x,y,true):=by
    rintro x y rfl rfl h;rw[mW,ab,ad,jR h];rfl
   have zU:∀x y,max a c=x->min b d=y->¬x<y->mW a b c d=(0,0,false):=by
    rintro x y rfl rfl h;rw[mW,ab,ad,jC h];rfl
   have dP:=I ab;have HH2:=I ad;clear ab ad;rcases amR a c with⟨aQ,m1⟩|⟨aQ,m1⟩<;>rcases amK b d with⟨a_,m2⟩|⟨a_,m2⟩
   all_goals
    by_cases ao:max a c<min b d
    .rw[m1,m2]at ao;have aX:=I (n5 _ _ m1 m2 ao);have Wb:¬(min b d<=max a c):=by omega
     rw[m1,m2]at Wb;have cB:=I (bb m1 m2);clear n5 zU m1 m2;go_enter func138,ntmps138
     go_wp2_with fail
     refine (Gh _ _ _).mono ?_;rintro e w1⟨rfl,au⟩;rw[dP];obtain⟨bo,bh,bm⟩:=au.xh;have c9:=bh.cell;go_wp2_with fail
     refine (Gh _ _ _).mono ?_;rintro e w2⟨rfl,bt⟩;rw[HH2];clear c9;replace bo:=bo.kept bt;replace bh:=bh.kept bt;replace bm:=bm.kept bt;obtain⟨kD,cR⟩:=bo.p;obtain⟨c9,bq⟩:=bh.p;obtain⟨bW,b5,f2⟩:=bm.q;go_wp2_with fail
     refine bI (v:=bj #[aF #[ah (mW a b c d).1,ah (mW a b c d).2.1],bR (mW a b c d).2.2]) (by rw[aX];simp[results,results138,go_sem,bW,b5,cB.out.1,cB.out.2]) rfl ⟨rfl,?_⟩;refine Kept.alloc ?_ _
     repeat refine Kept.setCell ?_ (by simp only;omega) _
     exact ((((aG _).alloc _).alloc _).alloc _|>.trans au).trans bt
    .rw[m1,m2]at ao;have aX:=I (zU _ _ m1 m2 ao);have cB:=I (bb m1 m2);clear n5 zU m1 m2;go_enter func138,ntmps138
     go_wp2_with fail
     refine (Gh _ _ _).mono ?_;rintro e w1⟨rfl,au⟩;rw[dP];obtain⟨bo,bh,bm⟩:=au.xh;have c9:=bh.cell;go_wp2_with fail
     refine (Gh _ _ _).mono ?_;rintro e w2⟨rfl,bt⟩;rw[HH2];clear c9;replace bo:=bo.kept bt;replace bh:=bh.kept bt;replace bm:=bm.kept bt;obtain⟨kD,cR⟩:=bo.p;obtain⟨c9,bq⟩:=bh.p;obtain⟨bW,b5,f2⟩:=bm.q;go_wp2_with fail
     refine bI (v:=bj #[aF #[ah (mW a b c d).1,ah (mW a b c d).2.1],bR (mW a b c d).2.2]) (by rw[aX];simp[results,results138,go_sem,bW,b5,cB.out.1,cB.out.2]) rfl ⟨rfl,?_⟩;refine Kept.alloc ?_ _
     repeat refine Kept.setCell ?_ (by simp only;omega) _
     exact ((((aG _).alloc _).alloc _).alloc _|>.trans au).trans bt
def uL(x e:nE):Bool:=(mW e.cZ e.cT x.cZ x.cT).2.2&&decide (max e.e2 x.e2<min e.aD x.aD)
def aiH(a b:nE)(w:ag):bg 109 #[AX a,AX b] w λy w'=>y=bL (bR (uL b a))/\Kept w w':=by
 obtain⟨f1,t1,bq,ab,e9⟩:=a;obtain⟨f2,t2,b5,ad,eC⟩:=b;have dY:=I (λw=>alF f1 t1 f2 t2 w);have aX:=I (show uL ⟨f2,t2,b5,ad,eC⟩ ⟨f1,t1,bq,ab,e9⟩=((mW f1 t1 f2 t2).2.2&&decide (max bq b5<min ab ad))from rfl);generalize uL ⟨f2,t2,b5,ad,eC⟩ ⟨f1,t1,bq,ab,e9⟩=R at*;generalize mW f1 t1 f2 t2=X at*;obtain⟨x,y,c⟩:=X;dsimp only at dY aX
 cases c
 .have bM:=I (show R=false from aX);unfold AX;go_enter func109,ntmps109
  go_wp2_with (go_at_call 138;refine (dY _).mono ?_;rintro e w1⟨rfl,au⟩;obtain⟨dE,jk⟩:=Kept.cells au;have cG:=au.size;(try simp at cG))
  go_ret;exact⟨fG bM.symm,(aG _).aZ.aZ.trans au|>.aZ⟩
 .have bM:=I (show R=decide (max bq b5<min ab ad)from aX);clear aX;unfold AX;go_enter func109,ntmps109
  go_upto_region 2 with (go_at_call 138;refine (dY _).mono ?_;rintro e w1⟨rfl,au⟩;obtain⟨c9,bW⟩:=au.PX;have dO:=c9.alloc (.cells #[x,ah y] 136);have fh:=bW.alloc (.cells #[x,ah y] 136);have ca:=au.alloc (.cells #[x,ah y] 136))
  have bp:=(((aG w).alloc (.cells #[f1,t1,bq,ab,e9] 181)).alloc (.cells #[f2,t2,b5,ad,eC] 181)).trans ca;generalize w1.alloc (.cells #[x,ah y] 136)=V at*;obtain⟨aY,r1⟩:=dO.p;obtain⟨a',Fz⟩:=fh.p;go_wp2_with fail
  go_ret;exact⟨fG bM.symm,bp⟩
def FE(w:ag)(g:aa)(x:nE):Prop:=g<w/\oG w g 0 x
def FE.kept{w w':ag}{g:aa}{x:nE}(h:FE w g x)(ai:Kept w w'):FE w' g x:=⟨bG h.1 ai.size,oG.kept _ _ _ _ _ ai h.1 h.2⟩
def aie(e:nE)(g:aa)(x:nE)(w:ag)(hp:FE w g x):
  bg 108 #[AX e,.pointer (some (g,0))] w λy w'=>y=bL (bR (uL x e))/\Kept w w':=by
 have ct:=I (λw1=>aiH e x w1);obtain⟨al,⟨bX,-⟩,⟨bQ,-⟩,⟨cx,-⟩,⟨hx,-⟩,⟨hK,-⟩⟩:=hp;generalize uL x e=R at*;obtain⟨f1,t1,bq,ab,e9⟩:=e;obtain⟨f2,t2,b5,ad,eC⟩:=x;unfold g' at bX bQ cx hx hK;unfold AX at*;dsimp only at*;go_enter func108,ntmps108
 go_wp2_with (go_at_call 109;refine (ct _).mono ?_;rintro aQ w1⟨rfl,au⟩)
 go_ret;exact⟨rfl,(aG _).aZ.trans au⟩
def ajk(v:ak)(rs:List nE)(g:aa)(x:nE)(w:ag)(bH:c0 5 oG w v rs)(hp:FE w g x):
 bg 107 #[v,.func (.func 108) #[] #[.pointer (some (g,0))]] w (B0 (uL x) rs w):=by
 unfold B0;obtain⟨A,cap,rfl,xt,av,a7⟩:=bH.at_;have ct:=I (λ(r:nE)w1(h:Kept w w1)=>aie r g x w1 (hp.kept h));obtain⟨n,aH⟩:∃n,n=rs.length:=⟨_,rfl⟩;rw[<-aH]at a7 xt av⊢;have b3:=I aH;clear aH bH hp;go_enter func107,ntmps107
 go_wp2_with fail
 go_loopw [10] (λz wr=>∃i:aa,i<=n/\z=ah i/\Kept w wr/\pX (uL x) (rs.drop i) i=pX (uL x) rs 0) (λz _=>(n-intOf z).toNat)
 case atStart=>exact⟨0,d' _,rfl,aG _,rfl⟩
 case round=>
  obtain⟨i,dG,rfl,ax,a6⟩:=hrel;by_cases aN:i<n
  .obtain⟨b,off,rfl,af,aj⟩:=a7 (by omega);have al:rs[i]?=some (rs[i]'(by have:=b3.out;omega)):=bn _;rw[abT al]at a6;obtain⟨⟨bX,-⟩,⟨bQ,-⟩,⟨cx,-⟩,⟨hx,-⟩,⟨hK,-⟩⟩:=aj i _ al;generalize rs[i]'(by have:=b3.out;omega)=r at*;have iI:=bX.kept ax af;have kk:=bQ.kept ax af;have lf:=cx.kept ax af;have Lq:=hx.kept ax af;have Lr:=hK.kept ax af;unfold g' at iI kk lf Lq Lr;have qG:=bG af ax.size;have db:(i:J)<n:=by omega
   have Fi:=I (ct r);have oQ:AX r=aF #[r.cZ,r.cT,r.e2,r.aD,r.n]:=rfl;rw[oQ]at Fi;clear aj a7 al bX bQ cx hx hK oQ
   cases Gy:uL x r
   all_goals
    rw[Gy]at a6 Fi;clear Gy;simp only[k3,A7,sx]at a6;have fa:=I a6;clear a6;go_wp2_with (go_at_call 108;refine (Fi _ (Kept.trans ax ((aG _).aZ))).mono ?_;rintro y w2⟨rfl,bt⟩)
    first
     |(go_roundw
       case rel=>exact⟨i+1,aN,by go_num,ax.aZ.trans bt,fa⟩
       case measure=>simp[intOf];omega)
     |(go_ret2;exact⟨by rw[<-fa];rfl,ax.aZ.trans bt⟩)
  .have db:¬((i:J)<n):=by omega
   rw[abU (by have:=b3.out;omega)]at a6;have fa:=I a6;clear a6;go_wp2_with fail
   go_ret2
   exact⟨by rw[<-fa];rfl,ax⟩
def rl(q:Prop)(w:ag)(e:Ending)(w':ag):Prop:=∃d c:J,e=bL (bj #[d,c])/\(c=0↔q)/\ -1<=d/\d<=64/\Kept w w'
def rl.mk{q:Prop}{w w':ag}{d c:J}(h:c=0↔q)(ab: -1<=d)(ad:d<=64)(ai:Kept w w'):rl q w (bL (bj #[d,c])) w':=⟨d,c,rfl,h,ab,ad,ai⟩
structure Lg(K V:J×J)(r:nE):Prop where
 tq:A2 r.cZ r.cT=true
 ne:r.cZ≠r.cT
 NB:¬r.aD<=r.e2
 au:¬r.e2<K.1
 bt:¬K.2<r.e2
 bF:¬r.aD-1<K.1
 ck:¬K.2<r.aD-1
 v1:¬r.n<V.1
 v2:¬V.2<r.n
structure DH(ms:List gh)(t:lB):Prop where
 aD:t.rows.length<=64
 JA:lr t.dL t.eY ms=true
 cT:lr t.cg t.bK ms=true
 rw:∀j r,t.rows[j]?=some r->Lg (pU t.dL t.eY ms) (pU t.cg t.bK ms) r/\pX (uL r) (t.rows.take j) 0=none
def c0.upto{α:Type}{k:aa}{P:ag->aa->aa->α->Prop}{w:ag}{A:gu}{n c i:aa}{xs:List α}(h:c0 k P w (ae A n c) xs)(aD:i<=xs.length):c0 k P w (ae A i c) (xs.take i):=by
 obtain⟨pH,fF,he,ab,ad,aj⟩:=h
 cases he;refine⟨A,c,by rw[gT,x5 aD],by rw[gT];omega,by rw[gT];omega,λhp=> ?_⟩;rw[gT]at hp;obtain⟨b,off,a7,af,aq⟩:=aj (by omega);refine⟨b,off,a7,af,λj x ay=>aq j x ?_⟩;rw[Tl]at ay;split at ay
 .exact ay
 .cases ay
def ap1(cD dw:ak)(t:lB)(ms:List gh)(w:ag)(a1:Enums w dw ms)(aJ:c0 5 oG w cD t.rows):
  bg 81 #[aF #[t.aM,t.dL,t.eY,t.cg,t.bK,cD],dw] w (rl (DH ms t) w):=by
 have HW:=I (λk e w1(h:Kept w w1)=>On k e dw ms w1 (a1.kept h));have yg:=I (λk e w1(h:Kept w w1)=>Ve k e dw ms w1 (a1.kept h));have q5:=I (λa b w1=>VI a b w1);obtain⟨c5,eW,rfl,-⟩:=id a1;obtain⟨sC,DN,rfl,hcR,hlR,wm⟩:=id aJ;have T3:=I (λ(j:aa)(r:nE)(g:aa)w1(ay:j<=t.rows.length)(h:Kept w w1)(hp:FE w1 g r)=>ajk (ae sC j DN) (t.rows.take j) g r w1 ((aJ.upto ay).kept oG.kept h) hp);unfold B0 at T3;obtain⟨Q,cL⟩:∃Q,Q=DH ms t:=⟨_,rfl⟩;rw[<-cL];have b1:=I cL;have e':=I (λ(c:J)(aq:c≠0)(h:¬DH ms t)=>(show c=0↔Q from⟨λe=>absurd e aq,λq=>absurd (b1▸q) h⟩));obtain⟨aM,dL,eY,cg,bK,rows⟩:=t;dsimp only at*;have Pl:=I wm;generalize Cn:rows.length=jb at*;generalize ms.length=dS at*;have wW:=I Cn;have aV:=I ((aG w).alloc (.cells #[aM,dL,eY,cg,bK,ae sC jb DN] 97));clear a1 aJ wm cL Cn;go_enter func81,ntmps81
 go_upto_region 1 with fail
 have bh:=aB.new w 97 #[aM,dL,eY,cg,bK,ae sC jb DN];have bp:=aV.out;generalize w.alloc (.cells #[aM,dL,eY,cg,bK,ae sC jb DN] 97)=W at*;have e3:=I (λw1(h:Kept W w1)=>bh.kept h);obtain⟨aY,bq⟩:=bh.p;clear bh;by_cases aH:64<jb
 .have ry:(64:J)<jb:=by omega
  have az:=I (e' 4 (by decide) (λh=>by have:=h.aD;dsimp only at this;rw[wW]at this;omega));clear aH;go_wp2_with fail
  exact bI (v:=bj #[ah 64,ah 4]) (by simp[results,results81,go_sem]) rfl (rl.mk az (by decide) (by decide) bp)
 have ry:¬((64:J)<jb):=by omega
 have b3:=I aH;clear aH
 cases ai:lr dL eY ms
 case false=>
  have az:=I (e' 8 (by decide) (λh=>by have:=h.JA;dsimp only at this;rw[ai]at this;cases this));go_wp2_with (go_at_call 105;refine (HW dL eY _ bp).mono ?_;rw[ai];rintro aQ w1⟨rfl,au⟩)
  exact bI (v:=bj #[ah (-1),ah 8]) (by simp[results,results81,go_sem]) rfl (rl.mk az (by decide) (by decide) (bp.trans au))
 cases aK:lr cg bK ms
 case false=>
  have az:=I (e' 8 (by decide) (λh=>by have:=h.cT;dsimp only at this;rw[aK]at this;cases this));go_wp2_with (first|(go_at_call_of 105 (Value.agg #[dL,eY]);refine (HW dL eY _ bp).mono ?_;rw[ai];rintro aQ w1⟨rfl,au⟩;have c9:=e3.out _ au;have d1:=c9.cell;have m1:=c9.lt)|(go_at_call_of 105 (Value.agg #[cg,bK]);refine (HW cg bK _ (bp.trans au)).mono ?_;rw[aK];rintro aQ w2⟨rfl,bt⟩))
  exact bI (v:=bj #[ah (-1),ah 8]) (by simp[results,results81,go_sem]) rfl (rl.mk az (by decide) (by decide) (bp.trans au|>.trans bt))
 obtain⟨⟨et,te⟩,ax⟩:∃X,pU dL eY ms=X:=⟨_,rfl⟩;obtain⟨⟨v0,v9⟩,c6⟩:∃X,pU cg bK ms=X:=⟨_,rfl⟩;have KF:=I ax;have Uz:=I c6;have jG:=I (bb ai aK);clear ax c6;go_upto_region 7 with (first|(go_at_call_of 105 (Value.agg #[dL,eY]);refine (HW dL eY _ bp).mono ?_;rw[ai];rintro aQ w1⟨rfl,au⟩;have c9:=e3.out _ au;have d1:=c9.cell;have m1:=c9.lt)|(go_at_call_of 105 (Value.agg #[cg,bK]);refine (HW cg bK _ (bp.trans au)).mono ?_;rw[aK];rintro aQ w2⟨rfl,bt⟩;have c3:=au.trans bt;have bW:=e3.out _ c3;have d2:=bW.cell;have m2:=bW.lt;clear d1 m1 c9)|(go_at_call_of 86 (Value.agg #[dL,eY]);refine (yg dL eY _ (bp.trans c3)).mono ?_;rw[KF];rintro aQ ch⟨rfl,bF⟩;have eO:=c3.trans bF;have j8:=e3.out _ eO;have d3:=j8.cell;have m3:=j8.lt;clear d2 m2 bW)|(go_at_call_of 86 (Value.agg #[cg,bK]);refine (yg cg bK _ (bp.trans eO)).mono ?_;rw[Uz];rintro aQ eK⟨rfl,ck⟩;have eB:=eO.trans ck;have ee:=e3.out _ eB;have d4:=ee.cell;have m4:=ee.lt;clear d3 m3 j8))
 clear ai aK ee HW yg;have HM:=I (bp.trans eB);generalize eK=X at*;go_wp2_with fail
 clear d4 m4;go_loopw [47] (λz wr=>∃j:aa,z=ah j/\j<=jb/\Kept X wr/\∀k r,k<j->rows[k]?=some r->Lg (et,te) (v0,v9) r/\pX (uL r) (rows.take k) 0=none) (λz _=>jb-(intOf z).toNat)
 case atStart=>exact⟨0,rfl,d' _,aG _,λ_ _ h=>absurd h (uo _)⟩
 case round=>
  obtain⟨j,rfl,hH,ax,l6⟩:=hrel;have cU:=I l6;clear l6;by_cases aN:j<jb
  .have hg:rows[j]?=some (rows[j]'(by rw[wW];exact aN)):=bn _;obtain⟨b,off,rfl,af,aq⟩:=Pl.out (by omega);obtain⟨⟨t0,z0⟩,⟨t1,fL⟩,⟨t2,z2⟩,⟨t3,z3⟩,⟨t4,z4⟩⟩:=aq j _ hg;generalize rows[j]'(by rw[wW];exact aN)=r at*;have lW:=I hg;have lE:=I (bb z0 (bb fL (bb z2 (bb z3 z4))));obtain⟨cZ,cT,e2,aD,n⟩:=r;dsimp only at*;unfold g' at t0 t1 t2 t3 t4;have en:=HM.trans ax;replace t0:=en.aI af t0;replace t1:=en.aI af t1;replace t2:=en.aI af t2;replace t3:=en.aI af t3;replace t4:=en.aI af t4;have qG:=bG af en.size;have kT:(j:J)<jb:=by omega
   have xx:(j:J)+1<=9223372036854775807:=by have:=b3.out;omega
   have p0:=I (show (-1:J)<=j/\(j:J)<=64 from by have:=b3.out;omega);have gi:=I en;have aQ:=(e3 _ (eB.trans ax)).cell;have e9:=(e3 _ (eB.trans ax)).lt;clear hg aq z0 fL z2 z3 z4 en;go_upto_region 10 with fail
   generalize aL:wr.alloc _=V at*;obtain⟨du,dq⟩:=Kept.aQ aL;clear aL;clear aQ e9 t0 t1 t2 t3 t4 qG;generalize wr.heap.size=g at*;have tA:=I (λw1(h:Kept V w1)=>dq.kept h);obtain⟨cv,ia⟩:=dq.p;have rW:=I (λ(h:¬(Lg (et,te) (v0,v9) ⟨cZ,cT,e2,aD,n⟩/\pX (uL ⟨cZ,cT,e2,aD,n⟩) (rows.take j) 0=none))=>(λ(q:DH ms ⟨aM,dL,eY,cg,bK,rows⟩)=>h (by have:=q.rw j _ lW;dsimp only at this;rw[KF,Uz]at this;exact this)));clear dq
   cases ar:A2 cZ cT
   case false=>
    have az:=I (e' 3 (by decide) (rW λh=>by have:=h.1.tq;dsimp only at this;rw[ar]at this;cases this));go_wp2_with (go_at_call 106;refine (q5 cZ cT _).mono ?_;rw[ar];rintro aQ c4⟨rfl,cy⟩;have fm:=tA.out _ cy;have d5:=fm.cell;have m5:=fm.lt)
    exact bI (v:=bj #[j,ah 3]) (by simp[results,results81,go_sem]) rfl (rl.mk az p0.1 p0.2 (((gi.trans du).trans cy)))
   by_cases ab:cZ=cT
   .have az:=I (e' 3 (by decide) (rW λh=>h.1.ne ab));have V9:(cZ==cT)=true:=by simpa using ab
    clear ab;go_wp2_with (go_at_call 106;refine (q5 cZ cT _).mono ?_;rw[ar];rintro aQ c4⟨rfl,cy⟩;have fm:=tA.out _ cy;have d5:=fm.cell;have m5:=fm.lt)
    exact bI (v:=bj #[j,ah 3]) (by simp[results,results81,go_sem]) rfl (rl.mk az p0.1 p0.2 (((gi.trans du).trans cy)))
   have V9:(cZ==cT)=false:=by simpa using ab
   have H1:=I ab;clear ab;by_cases ad:aD<=e2
   .have az:=I (e' 3 (by decide) (rW λh=>h.1.NB ad));go_wp2_with (go_at_call 106;refine (q5 cZ cT _).mono ?_;rw[ar];rintro aQ c4⟨rfl,cy⟩;have fm:=tA.out _ cy;have d5:=fm.cell;have m5:=fm.lt)
    exact bI (v:=bj #[j,ah 3]) (by simp[results,results81,go_sem]) rfl (rl.mk az p0.1 p0.2 (((gi.trans du).trans cy)))
   have vL:=I ad;have h2b:decide (aD<=e2)=false:=jC ad;clear ad;go_upto_region 12 with (go_at_call 106;refine (q5 cZ cT _).mono ?_;rw[ar];rintro aQ c4⟨rfl,cy⟩;have fm:=tA.out _ cy;have d5:=fm.cell;have m5:=fm.lt)
   have aO: -9223372036854775808<=aD-1/\aD-1<=9223372036854775807:=by have:=lE.out;have:=vL.out;omega
   obtain⟨rA,mT⟩:=aO;have wS:=I ar;clear ar V9 h2b cv ia fm q5;by_cases cK:e2<et
   .have az:=I (e' 3 (by decide) (rW λh=>h.1.au cK));go_wp2_with fail
    exact bI (v:=bj #[j,ah 3]) (by simp[results,results81,go_sem]) rfl (rl.mk az p0.1 p0.2 (((gi.trans du).trans cy)))
   by_cases aY:te<e2
   .have az:=I (e' 3 (by decide) (rW λh=>h.1.bt aY));go_wp2_with fail
    exact bI (v:=bj #[j,ah 3]) (by simp[results,results81,go_sem]) rfl (rl.mk az p0.1 p0.2 (((gi.trans du).trans cy)))
   by_cases a':aD-1<et
   .have az:=I (e' 3 (by decide) (rW λh=>h.1.bF a'));go_wp2_with fail
    exact bI (v:=bj #[j,ah 3]) (by simp[results,results81,go_sem]) rfl (rl.mk az p0.1 p0.2 (((gi.trans du).trans cy)))
   by_cases bu:te<aD-1
   .have az:=I (e' 3 (by decide) (rW λh=>h.1.ck bu));go_wp2_with fail
    exact bI (v:=bj #[j,ah 3]) (by simp[results,results81,go_sem]) rfl (rl.mk az p0.1 p0.2 (((gi.trans du).trans cy)))
   go_upto_region 14 with fail
   have ct:=I (bb cK (bb aY (bb a' bu)));clear cK aY a' bu rA mT;by_cases cK:n<v0
   .have az:=I (e' 3 (by decide) (rW λh=>h.1.v1 cK));go_wp2_with fail
    exact bI (v:=bj #[j,ah 3]) (by simp[results,results81,go_sem]) rfl (rl.mk az p0.1 p0.2 (((gi.trans du).trans cy)))
   by_cases aY:v9<n
   .have az:=I (e' 3 (by decide) (rW λh=>h.1.v2 aY));go_wp2_with fail
    exact bI (v:=bj #[j,ah 3]) (by simp[results,results81,go_sem]) rfl (rl.mk az p0.1 p0.2 (((gi.trans du).trans cy)))
   go_upto_region 16 with fail
   have Br:=I (show Lg (et,te) (v0,v9) ⟨cZ,cT,e2,aD,n⟩from⟨wS,H1,by have:=vL.out;dsimp only;omega,by have:=ct.out;dsimp only;omega,by have:=ct.out;dsimp only;omega,by have:=ct.out;dsimp only;omega,by have:=ct.out;dsimp only;omega,by dsimp only;omega,by dsimp only;omega⟩);have aQ:=(e3 _ ((eB.trans ax).trans (du.trans cy))).cell;have e9:=(e3 _ ((eB.trans ax).trans (du.trans cy))).lt;have pO:=I (λdc(h:Kept c4 dc)=>(show FE dc g ⟨cZ,cT,e2,aD,n⟩from⟨(tA _ (cy.trans h)).lt,⟨(tA _ (cy.trans h)).cell 0,lE.1⟩,⟨(tA _ (cy.trans h)).cell 1,lE.2.1⟩,⟨(tA _ (cy.trans h)).cell 2,lE.2.2.1⟩,⟨(tA _ (cy.trans h)).cell 3,lE.2.2.2.1⟩,⟨(tA _ (cy.trans h)).cell 4,lE.2.2.2.2⟩⟩));have hjc:(j:J)<=DN:=by omega
   have Dl:=I (λdc(h:Kept c4 dc)=>T3 j ⟨cZ,cT,e2,aD,n⟩ g dc (by omega) ((gi.trans (du.trans cy)).trans h) (pO dc h));clear cK aY d5 m5 T3
   cases bV:pX (uL ⟨cZ,cT,e2,aD,n⟩) (rows.take j) 0 with
   |some i=>
    have az:=I (e' 11 (by decide) (rW λh=>by rw[bV]at h;cases h.2));rw[bV]at Dl;unfold JK at Dl;dsimp only at Dl;clear bV;go_wp2_with (go_at_call 107;refine (Dl _ (aG _)).mono ?_;rintro qB dc⟨rfl,ey⟩)
    exact bI (v:=bj #[j,ah 11]) (by simp[results,results81,go_sem]) rfl (rl.mk az p0.1 p0.2 ((gi.trans (du.trans cy)).trans ey))
   |none=>
    have nh:=I (show∀k r,k<j+1->rows[k]?=some r->Lg (et,te) (v0,v9) r/\pX (uL r) (rows.take k) 0=none from λk r ai hm=>by
     rcases De.1 ai with h|rfl
     .exact cU k r h hm
     .have he:=lW.symm.trans hm
      cases he;exact⟨Br,bV⟩)
    rw[bV]at Dl;unfold JK at Dl;dsimp only at Dl;clear bV;go_wp2_with (go_at_call 107;refine (Dl _ (aG _)).mono ?_;rintro qB dc⟨rfl,ey⟩)
    go_roundw
    case rel=>exact⟨j+1,by go_num,aN,ax.trans ((du.trans cy).trans ey),nh⟩
    case measure=>simp[intOf];omega
  .obtain rfl:j=jb:=by omega
   have kT:¬((j:J)<j):=by omega
   have az:=I (show Q from b1▸⟨by dsimp only;rw[wW];have:=b3.out;omega,jG.1,jG.2,λk r hm=>by dsimp only at hm⊢;rw[KF,Uz];exact cU k r (by rw[<-wW];exact (b2 hm).1) hm⟩);go_wp2_with fail
   exact bI (v:=bj #[(),()]) (by simp[results,results81,go_sem]) rfl (rl.mk (iff_of_true rfl az) (by decide) (by decide) (HM.trans ax))
structure DI(bs:List pI)(tb:List lB)(i:aa)(x:lB):Prop where
 id:nP (L x.aM)=true
 ne:fV x.aM (bs.map (·.aM))=false
 jZ:fV x.aM ((tb.map (·.aM)).take i)=false
 ok:DH (bs.map (·.mem)) x
structure FF(bs:List pI)(tb:List lB):Prop where
 aD:tb.length<=8
 all:∀i x,tb[i]?=some x->DI bs tb i x
def ahS(cm:ak)(l:cO)(w:ag)(bE:h1 w cm l):bg 51 #[cm] w (nR (FF l.bs l.tb) w):=by
 obtain⟨dw,cM,cH,rfl,ar,ab,ad⟩:=bE;have z1:=I (λ(t:lB)(cD:ak)(w1:ag)(h:Kept w w1)(aJ:c0 5 oG w1 cD t.rows)=>ap1 cD dw t (l.bs.map (·.mem)) w1 (Qw (ar.kept n2.kept h)) aJ);unfold rl at z1;have cW:=I (λ(s:ez)w1(h:Kept w w1)=>WI _ _ s w1 (ar.kept n2.kept h));have dY:=I (λs(aO:s.size<=140737488355328)w1=>Nv s aO w1);obtain⟨c5,eW,rfl,-⟩:=id ar;obtain⟨cV,cX,rfl,hcT,hlT,hxT⟩:=id ab;obtain⟨hM,fJ,rfl,-⟩:=id ad;have c8:=I (λ(s:ez)(j:aa)w1(ay:j<=l.tb.length)(h:Kept w w1)=>ab9 (ae cV j cX) (l.tb.take j) s w1 ((ab.upto ay).kept ld.kept h));unfold fo at cW c8;obtain⟨Q,cL⟩:∃Q,Q=FF l.bs l.tb:=⟨_,rfl⟩;rw[<-cL];have b1:=I cL;have e':=I (λ(h:¬FF l.bs l.tb)=>(show¬Q from λq=>h (b1▸q)));have HXT:=I hxT;generalize l.bs.length=dS at*;generalize wb:l.tb.length=dd at*;generalize l.sc.length=fO at*;have Dr:=I wb;clear ar ab ad hxT cL wb;go_enter func51,ntmps51
 go_upto_region 1 with fail
 generalize aL:(w.alloc _).alloc _=W at*;obtain⟨bp,bh,bm⟩:=Kept.a_ aL;clear aL;have e3:=I (λw1(h:Kept W w1)=>bh.kept h);have eA:=I (λw1(h:Kept W w1)=>bm.kept h);obtain⟨aY,bq⟩:=bh.p;clear bh bm;by_cases aH:8<dd
 .have ry:(8:J)<dd:=by omega
  have az:=I (e' λh=>by have:=h.aD;rw[Dr]at this;omega);have bW:=eA.out _ (aG _);obtain⟨a',b5,f2⟩:=bW.q;have cE:=I (oU bW bp (by omega) (ah 4) (ah 2) (ah 8) ());clear aH bW;go_wp2_with fail
  have e5:=cE.1.cell;exact bI (v:=aF #[ah 4,ah 2,ah 8,()]) (by simp[results,results51,go_sem,e5]) rfl (nR.no (by decide) az cE.2)
 have ry:¬((8:J)<dd):=by omega
 have b3:=I aH;clear aH;go_wp2_with fail
 clear aY bq;go_loopw [16] (λz wr=>∃j:aa,z=ah j/\j<=dd/\Kept W wr/\∀k x,k<j->l.tb[k]?=some x->DI l.bs l.tb k x) (λz _=>dd-(intOf z).toNat)
 case atStart=>exact⟨0,rfl,d' _,aG _,λ_ _ h=>absurd h (uo _)⟩
 case round=>
  obtain⟨j,rfl,hH,ax,l6⟩:=hrel;have cU:=I l6;clear l6;by_cases aN:j<dd
  .have hg:l.tb[j]?=some (l.tb[j]'(by rw[Dr];exact aN)):=bn _;obtain⟨b,off,rfl,af,aq⟩:=HXT.out (by omega);obtain⟨⟨t0,ie⟩,⟨t1,-⟩,⟨t2,-⟩,⟨t3,-⟩,⟨t4,-⟩,⟨cD,t5,aJ⟩⟩:=aq j _ hg;generalize s6:l.tb[j]'(by rw[Dr];exact aN)=x at*;have lW:=I hg;unfold g' at t0 t1 t2 t3 t4 t5;have en:=bp.trans ax;have q7:=I (aJ.kept oG.kept en);obtain⟨sC,DN,rfl,-⟩:=id aJ;replace t0:=en.aI af t0;replace t1:=en.aI af t1;replace t2:=en.aI af t2;replace t3:=en.aI af t3;replace t4:=en.aI af t4;replace t5:=en.aI af t5;have qG:=bG af en.size;have kT:(j:J)<dd:=by omega
   have Uw:=I (λw1(h:Kept wr w1)=>z1 x _ w1 (en.trans h) (q7.kept oG.kept h));have rW:=I (λ(h:¬DI l.bs l.tb j x)=>e' λq=>h (q.all j x hg));have O0:=I (λ(h:DI l.bs l.tb j x)=>(show∀k x,k<j+1->l.tb[k]?=some x->DI l.bs l.tb k x from λk jO ai hm=>by
     rcases De.1 ai with g|rfl
     .exact cU k jO g hm
     .have he:=hg.symm.trans hm
      cases he;exact h))
   have ym:=I (λ(a:nP (L x.aM)=true)(b:fV x.aM (l.bs.map (·.aM))=false)(c:fV x.aM ((l.tb.map (·.aM)).take j)=false)(d:DH (l.bs.map (·.mem)) x)=>(⟨a,b,c,d⟩:DI l.bs l.tb j x));have j4:=I (λ(h:DI l.bs l.tb j x)=>(show nP (L x.aM)=true/\fV x.aM (l.bs.map (·.aM))=false/\fV x.aM ((l.tb.map (·.aM)).take j)=false/\DH (l.bs.map (·.mem)) x from⟨h.id,h.ne,h.jZ,h.ok⟩));have HS:=I (λw1(h:Kept w w1)=>c8 x.aM j w1 (by omega) h);rw[E5]at HS;have HEJ:=I (λw1(h:Kept w w1)=>cW x.aM w1 h);have KE:=I (λw1=>dY x.aM ie w1);have gi:=I en;have aQ:=(e3 _ ax).cell;have m1:=(e3 _ ax).lt;have xx:(j:J)+1<=9223372036854775807:=by have:=b3.out;omega
   have gs:w.heap.size+1<wr.heap.size:=(eA _ ax).lt;generalize x.rows.length=jb at*;generalize DH (l.bs.map (·.mem)) x=au6 at*;generalize fV x.aM (l.bs.map (·.aM))=N2 at*;generalize fV x.aM ((l.tb.map (·.aM)).take j)=SE at*;generalize nP (L x.aM)=auP at*;generalize DI l.bs l.tb j x=au7 at*;generalize x.aM=aM at*;generalize x.dL=dL at*;generalize x.eY=eY at*;generalize x.cg=cg at*;generalize x.bK=bK at*;have HJC:=I (show (j:J)<=cX by omega);clear hg s6 aJ aq en z1 c8 cW dY ie;go_upto_region 7 with fail
   generalize aL:(wr.alloc _).alloc _=V at*;obtain⟨du,fH,hq⟩:=Kept.a_ aL;clear aL;clear aQ m1 t0 t1 t2 t3 t4 t5 qG aN;generalize wr.heap.size=g at*;have r0:=I (λw1(h:Kept V w1)=>e3 _ ((ax.trans du).trans h));have sM:=I (λw1(h:Kept V w1)=>eA _ ((ax.trans du).trans h));have HV:=I (λw1(h:Kept V w1)=>fH.kept h);have z6:=I (λw1(h:Kept V w1)=>hq.kept h);have jG:=I (gi.trans du);have pM:=I (ax.trans du);have aQ:=(r0 _ (aG _)).cell;have m1:=(r0 _ (aG _)).lt;obtain⟨h_,m4⟩:=fH.p;clear fH hq;go_upto_region 8 with (go_at_call 81;refine (Uw _ du).mono ?_;rintro qB dc⟨d,c,rfl,nn,hf,mx,ey⟩;have kf:=I nn;clear nn)
   have HDB:=I (bb hf mx);clear aQ m1 h_ m4 hf mx;have h_:=(HV _ ey).cell;have m4:=(HV _ ey).lt;have ko:=(z6 _ ey).cell;have m5:=(z6 _ ey).lt;have f5:=(z6 _ ey).frozen
   cases b6:auP
   case false=>
    have az:=I (rW λh=>by have:=(j4 h).1;rw[b6]at this;cases this);rw[b6]at KE;go_upto_region 16 with (go_at_call 82;refine (KE _).mono ?_;rintro r9 lP⟨rfl,rfl⟩)
    have fm:=(z6 _ ey).ba 0 (ah 2);have bW:=(sM _ ey).far (p:=⟨g+1,0,none⟩) (show w.heap.size+1≠g+1 by omega) (ah 2);have CG:=(jG.trans ey).setCell (p:=⟨g+1,0,none⟩) (show w<=g+1 by omega) (ah 2);simp only[kM,lS]at fm;generalize ji:(dc.setCell ⟨g+1,0,none⟩ (ah 2))=U at*;obtain⟨b_,gA⟩:=fm.p;obtain⟨a',b5,f2⟩:=bW.q;have cE:=I (oU bW CG (by omega) (ah 2) (ah 2) j ());clear fm bW ji h_ m4 ko m5 f5;go_wp2_with fail
    have e5:=cE.1.cell;exact bI (v:=aF #[ah 2,ah 2,j,()]) (by simp[results,results51,go_sem,e5]) rfl (nR.no (by decide) az cE.2)
   rw[b6]at KE;go_upto_region 10 with (go_at_call 82;refine (KE _).mono ?_;rintro r9 lP⟨rfl,rfl⟩)
   clear KE;clear h_ m4 ko m5 f5;go_cut [36] (λz cj=>z=bR (N2||SE)/\Kept dc cj)
   case first=>
    have a0:=aS.cell (r0 _ ey).lt ((r0 _ ey).cell 0);have eS:=aS.cell (r0 _ ey).lt ((r0 _ ey).cell 1);have a4:=aS.cell (HV _ ey).lt ((HV _ ey).cell 0);have hjc:=HJC.out;have HH:=I (jG.trans ey)
    cases N2
    all_goals
     go_wp2_with fail
     refine nc (by kernel_rfl) (by kernel_rfl) ?_
     repeat (go_big_quiet_step (first|(go_at_call 83;exact aS.call (HEJ _ (HH.trans (aS.h _))))|(go_at_call 84;exact aS.call (HS _ (HH.trans (aS.h _))))))
     refine f' ?_;rintro xW⟨⟨wx8,sn⟩,aT⟩;obtain rfl:xW=wx8:=aT;go_wp2_with fail
     go_meet;exact⟨rfl,sn⟩
   case rest=>
   obtain⟨rfl,sn⟩:=hcut;generalize wc=xW at*;clear HEJ HS;have pb:=ey.trans sn;have ko:=(z6 _ pb).cell;have m5:=(z6 _ pb).lt;have f5:=(z6 _ pb).frozen;have h_:=trivial;have m4:=trivial;by_cases cY:N2=false/\SE=false
   case neg=>
    have af:(N2||SE)=true:=by cases N2<;>cases SE<;>simp_all
    have az:=I (rW λh=>cY ⟨(j4 h).2.1,(j4 h).2.2.1⟩);rw[af];clear cY af;go_upto_region 16 with fail
    have fm:=(z6 _ pb).ba 0 (ah 7);have bW:=(sM _ pb).far (p:=⟨g+1,0,none⟩) (show w.heap.size+1≠g+1 by omega) (ah 7);have CG:=(jG.trans pb).setCell (p:=⟨g+1,0,none⟩) (show w<=g+1 by omega) (ah 7);simp only[kM,lS]at fm;generalize ji:(xW.setCell ⟨g+1,0,none⟩ (ah 7))=U at*;obtain⟨b_,gA⟩:=fm.p;obtain⟨a',b5,f2⟩:=bW.q;have cE:=I (oU bW CG (by omega) (ah 7) (ah 2) j ());clear fm bW ji h_ m4 ko m5 f5;go_wp2_with fail
    have e5:=cE.1.cell;exact bI (v:=aF #[ah 7,ah 2,j,()]) (by simp[results,results51,go_sem,e5]) rfl (nR.no (by decide) az cE.2)
   obtain⟨yT,B6⟩:=cY;subst yT B6;rw[show (false||false)=false from rfl];by_cases hG:c=0
   case neg=>
    have jv:(c !=0)=true:=by simpa using hG
    have az:=I (rW λh=>hG (kf.2 (j4 h).2.2.2));have HA:=I hG;clear hG kf;by_cases aE:d= -1
    .subst aE;go_upto_region 16 with fail
     have fm:=(z6 _ pb).ba 0 c;have bW:=(sM _ pb).far (p:=⟨g+1,0,none⟩) (show w.heap.size+1≠g+1 by omega) c;have CG:=(jG.trans pb).setCell (p:=⟨g+1,0,none⟩) (show w<=g+1 by omega) c;simp only[kM,lS]at fm;generalize ji:(xW.setCell ⟨g+1,0,none⟩ c)=U at*;obtain⟨b_,gA⟩:=fm.p;obtain⟨a',b5,f2⟩:=bW.q;have cE:=I (oU bW CG (by omega) c (ah 2) j ());clear fm bW ji h_ m4 ko m5 f5;go_wp2_with fail
     have e5:=cE.1.cell;exact bI (v:=aF #[c,ah 2,j,()]) (by simp[results,results51,go_sem,e5]) rfl (nR.no HA az cE.2)
    .have tU:(d != -1)=true:=by simpa using aE
     have hf: -9223372036854775808<=100+d:=by have:=HDB.out;omega
     have mx:100+d<=9223372036854775807:=by have:=HDB.out;omega
     clear aE;go_upto_region 16 with fail
     have fm:=(z6 _ pb).ba 0 c;have bW:=(sM _ pb).far (p:=⟨g+1,0,none⟩) (show w.heap.size+1≠g+1 by omega) c;have CG:=(jG.trans pb).setCell (p:=⟨g+1,0,none⟩) (show w<=g+1 by omega) c;replace fm:=fm.ba 3 (ah (100+d));replace bW:=bW.far (p:=⟨g+1,3,none⟩) (show w.heap.size+1≠g+1 by omega) (ah (100+d));replace CG:=CG.setCell (p:=⟨g+1,3,none⟩) (show w<=g+1 by omega) (ah (100+d));simp only[kM,lS,qg]at fm;generalize ji:((xW.setCell ⟨g+1,0,none⟩ c).setCell ⟨g+1,3,none⟩ (ah (100+d)))=U at*;obtain⟨b_,gA⟩:=fm.p;obtain⟨a',b5,f2⟩:=bW.q;have cE:=I (oU bW CG (by omega) c (ah 2) j (ah (100+d)));clear fm bW ji h_ m4 ko m5 f5;go_wp2_with fail
     have e5:=cE.1.cell;exact bI (v:=aF #[c,ah 2,j,ah (100+d)]) (by simp[results,results51,go_sem,e5]) rfl (nR.no HA az cE.2)
   subst hG;have nh:=I (O0 (ym b6 rfl rfl (kf.1 rfl)));clear O0 ym kf rW j4 h_ m4 b6;go_wp2_with fail
   go_roundw
   case rel=>exact⟨j+1,by go_num,by omega,pM.trans pb,nh⟩
   case measure=>simp[intOf];omega
  .obtain rfl:j=dd:=by omega
   have kT:¬((j:J)<j):=by omega
   have az:=I (show Q from b1▸⟨by rw[Dr];have:=b3.out;omega,λk x hm=>cU k x (by rw[<-Dr];exact (b2 hm).1) hm⟩);have bW:=eA.out _ ax;obtain⟨a',b5,f2⟩:=bW.q;have cE:=I (oU bW (bp.trans ax) (by omega) () () () ());clear bW;go_wp2_with fail
   have e5:=cE.1.cell;exact bI (v:=aF #[(),(),(),()]) (by simp[results,results51,go_sem,e5]) rfl (nR.yes az cE.2)
def anN(R:aa)(w:ag)(aM:Option String):(receiverAt 193 (.val (.pointer (some (R,0)))) false aM).run prog w=(loadVar 194 (R,0)).run prog w:=by
 cases aM
 .kernel_rfl
 .kernel_rfl
def Yp{s:String}{f:FuncId}(F R:aa)(v:ak)(w:ag)(aq:aU w (R,0)=some v)(a_:((prog.info? 193).bind λm=>(m.methods.find? (λx:Go.Method=>x.name==s)).map λm=>(m.path.toList,m.func))=some ([],some (f,false))):(method (F+1) 193 (.pointer (some (R,0))) s).run prog w= .ok (f,v) w:=by
 obtain⟨m,h_,ko⟩:=Option.bind_eq_some_iff.1 a_;obtain⟨m2,qB,r9⟩:=Da.1 ko;simp only[q1]at r9;obtain⟨r9,L2⟩:=r9;have Qg:(loadVar 194 ⟨R,0,none⟩).run prog w= .ok v w:=by simp[go_sem,aq]
 unfold method;simp[OE,typeInfo,go_sem,h_,qB,r9,L2,follow];rw[anN,Qg];rfl
def JE(F R:aa)(v:ak)(w:ag)(aq:aU w (R,0)=some v):(method (F+1) 193 (.pointer (some (R,0))) "Less").run prog w= .ok (245,v) w:=by
 have a_:((prog.info? 193).bind λm=>(m.methods.find? (λx:Go.Method=>x.name== "Less")).map λm=>(m.path.toList,m.func))=some ([],some (245,false)):=by kernel_rfl
 exact Yp F R v w aq a_
def adg(F R:aa)(v:ak)(w:ag)(aq:aU w (R,0)=some v):(method (F+1) 193 (.pointer (some (R,0))) "Len").run prog w= .ok (90,v) w:=by
 have a_:((prog.info? 193).bind λm=>(m.methods.find? (λx:Go.Method=>x.name== "Len")).map λm=>(m.path.toList,m.func))=some ([],some (90,false)):=by kernel_rfl
 exact Yp F R v w aq a_
def Er(F R:aa)(v:ak)(w:ag)(aq:aU w (R,0)=some v):(method (F+1) 193 (.pointer (some (R,0))) "Swap").run prog w= .ok (248,v) w:=by
 have a_:((prog.info? 193).bind λm=>(m.methods.find? (λx:Go.Method=>x.name== "Swap")).map λm=>(m.path.toList,m.func))=some ([],some (248,false)):=by kernel_rfl
 exact Yp F R v w aq a_
def amx(F R:aa)(w:ag):(method (F+1) 193 (.pointer (some (R,0))) "Push").run prog w= .ok (247,.pointer (some (R,0))) w:=by kernel_rfl
def amw(F R:aa)(w:ag):(method (F+1) 193 (.pointer (some (R,0))) "Pop").run prog w= .ok (246,.pointer (some (R,0))) w:=by kernel_rfl
def j6.cell{w:ag}{B R:aa}{v:ak}{l:aW}(h:j6 w B R v l):aU w (R,0)=some v:=h.box.cell 0
def j6.row{w:ag}{B R g cap n:aa}{l:aW}(h:j6 w B R (ae (some (g,0)) n cap) l):∃cur,aB w g 3 cur/\l.length=n/\n<=cap/\cap<=Go.maxLen/\cur.size=cap/\B<=g/\cur.toList.take n=l.map (Value.int .i64)/\∀i,i<l.length->cur[i]?=some (ah (dJ l i)):=by
 rcases h.own.2 with⟨ar,_⟩|⟨ju,rj,cur,ar,ao,aR,bw,eL,hX,eI⟩
 .cases ar
 .simp only[i_,vF,wJ,kN]at ar;obtain⟨rfl,rfl,rfl⟩:=ar;refine⟨cur,aR,rfl,bw,eL,by omega,ao,by rw[jD]at eI;exact eI,λi aD=> ?_⟩;have:=congrArg (λq=>q[i]?) eI;simp only[jD]at this;rw[tv aD,hS,Ba,bn aD]at this;unfold dJ;rw[this,bn aD];rfl
def j6.swap{w w':ag}{B R g cap n i j:aa}{l:aW}{cur:ho}(h:j6 w B R (ae (some (g,0)) n cap) l)(bc:aB w g 3 cur)(aD:i<l.length)(ay:j<l.length)(ab:aB w' g 3 ((cur.setIfInBounds i (ah (dJ l j))).setIfInBounds j (ah (dJ l i))))(ad:w.grownBy w' (some g)):j6 w' B R (ae (some (g,0)) n cap) (pB l i j):=by
 obtain⟨Vy,Mj,aH,dE,jj,uQ,I_,Gj,sd⟩:=h.row;have e:Vy=cur:=by
  have ao:w.heap[g]?=some (.cells Vy 3 (0,0)):=Mj;have aR:w.heap[g]?=some (.cells cur 3 (0,0)):=bc;rw[ao]at aR;simpa using aR
 subst e;have bU:g≠R:=λe=>h.far (by rw[<-e];rfl);refine⟨(ad.block R h.box.lt (λe=>bU (by have:=cJ e;exact this.symm))).trans h.box,⟨by rw[er,jD],.inr ⟨g,cap,_,?_,I_,ab,by rw[rL];omega,jj,by simp;omega,?_⟩⟩,h.far,h.low⟩
 .rw[rL,aH]
 .rw[rL,jD];apply A8;intro k;by_cases ai:k<l.length
  .rw[tv ai,hS,Ba,Hg,Hg];unfold pB;rw[x2,x2,gJ];have:=sd k ai;have qM:k<Vy.size:=by omega
   by_cases aQ:j=k
   .subst aQ;simp[ay,qM]
   .by_cases a_:i=k
    .subst a_;simp[aQ,aD,qM]
    .simp only[aQ,a_,sx];rw[this];unfold dJ;rw[bn ai];rfl
  .rw[List.getElem?_take_eq_none (by omega),lR (by rw[er,rL];omega)]
def acp(g cap n:aa)(i j:aa)(mj q9:J)(b6:mj=i)(yU:q9=j)(a b:J)(w:ag)(aD:i<n)(ay:j<n)(al:g<w)(bD:aU w (g,i)=some (ah a))(af:aU w (g,j)=some (ah b)):
  bg 245 #[ae (some (g,0)) n cap,mj,q9] w λe w'=>e=bL (bR (decide (a<b)))/\Kept w w':=by
 subst b6 yU;exact akk g cap n i j a b w aD ay al bD af
def XG(g cap n:aa)(i j:aa)(mj q9:J)(b6:mj=i)(yU:q9=j)(cur:ho)(a b:J)(w:ag)(aD:i<n)(ay:j<n)(bc:aB w g 3 cur)(bD:cur[i]?=some (ah a))(af:cur[j]?=some (ah b)):
  bg 248 #[ae (some (g,0)) n cap,mj,q9] w λe w'=>e=bL (bj #[])/\aB w' g 3 ((cur.setIfInBounds i b).setIfInBounds j a)/\w.grownBy w' (some g):=by
 subst b6 yU;exact ak6 g cap n i j cur a b w aD ay bc bD af
def j6.kept{w w':ag}{B R:aa}{v:ak}{l:aW}(h:j6 w B R v l)(ai:Kept w w'):j6 w' B R v l:=by
 refine⟨h.box.kept ai,⟨h.own.1,?_⟩,h.far,h.low⟩;rcases h.own.2 with ad|⟨g,cap,cur,aK,af,al,ao⟩
 .exact .inl ad
 .have aR:aB w g 3 cur:=al;exact .inr ⟨g,cap,cur,aK,af,aR.kept ai,ao⟩
def hup(B R g cap:aa)(l:aW)(jq Fe:aa)(w:ag)(h:j6 w B R (ae (some (g,0)) l cap) l)(ay:jq<l.length)(hF:jq<Fe)(av:l.length<=1000000):
  bg 123 #[.iface 193 (.pointer (some (R,0))),jq] w λe w'=>e=bL (bj #[])/\j6 w' B R (ae (some (g,0)) l cap) (xT Fe l jq)/\Two w w' (some g) R:=by
 obtain⟨T,bT⟩:∃T,xT Fe l jq=T:=⟨_,rfl⟩;rw[bT];have c8:=I bT;have wS:=I h;clear bT h;go_enter func123,ntmps123
 go_wp2
 go_loopg [1] Fe (λk y wr=>∃(j:aa)(bq:aW),y=ah j/\j<l.length/\j<k/\bq.length=l.length/\j6 wr B R (ae (some (g,0)) l cap) bq/\Two w wr (some g) R/\xT k bq j=T)
 case atStart=>exact⟨jq,l,rfl,ay,hF,rfl,wS,Two.refl _ _ _,c8⟩
 case round=>
  obtain⟨j,bq,rfl,ay,ai,uT,b6,nH,a6⟩:=hrel;obtain⟨F,rfl⟩:∃F,gk=F+1:=⟨gk-1,by omega⟩;have cK:=b6.box.cell 0;have cR:=b6.box.lt;simp only[hL,iP]at cK;rw[xT]at a6;by_cases ar:j=0
  .subst ar;go_wp2_with fail
   go_end0
   rw[aP (.inl trivial)]at a6;exact⟨rfl,a6▸b6,nH⟩
  .obtain⟨i,aD⟩:∃i,i=(j-1)/2:=⟨_,rfl⟩;have hI1:((j-1:aa):J)/2=i:=by omega
   have bU:¬((j-1:aa):J)/2=j:=by omega
   have hij:i<j:=by omega
   obtain⟨cur,bc,-,dE,-,-,-,-,sd⟩:=b6.row;have al:=bc.lt;have ci:=sd i (by omega);have Ah:=sd j (by omega);have R4:=(bc.cell i).trans ci;have Jz:=(bc.cell j).trans Ah;have dB:=I (λw1 q9(yU:q9=(i:J))(ai:Kept wr w1)=>acp g cap l j i j q9 rfl yU (dJ bq j) (dJ bq i) w1 ay (by omega) (bG al ai.size) (ai.aI al Jz) (ai.aI al R4));have hm:=(JE 438 R _ wr b6.cell:(method 439 _ _ _).run _ _=_);have Dv:=I (λw1 q9(yU:q9=(i:J))(ai:Kept wr w1)=>XG g cap l i j q9 _ yU rfl cur (dJ bq i) (dJ bq j) w1 (by omega) ay (bc.kept ai) ci Ah);have dP:=I b6;have aX:=I a6;have n6:=I nH;have ab2:((j:J)-1)/2=i:=by omega
   have dv:=I bc;have HI1:=I ab2;clear b6 a6 nH bc sd ci Ah R4 Jz ab2;by_cases aN:dJ bq j<dJ bq i
   .rw[jR aN]at dB;go_wp2_with (first|(go_at_call 245;refine (dB _ _ (by omega) (aG _)).mono ?_;rintro e w1⟨rfl,au⟩;have aO:=(Er 438 R _ w1 (dP.kept au).cell:(method 439 _ _ _).run _ _=_);have ca:=I au;clear au)|(go_at_call 248;refine (Dv _ _ (by omega) ca).mono ?_;rintro e w2⟨rfl,g1,g2⟩;have eQ:=I (bb g1 g2);clear g1 g2))
    obtain⟨g1,g2⟩:=eQ.out;have F8:=(dP.kept ca).swap (dv.kept ca) (by omega) (by omega) g1 g2;have D4:=(n6.trans (Two.ky (a:=some g) (r:=R) ca) (.inl rfl)).trans (Two.AQ (r:=R) g2) (.inl rfl);have gR:xT F (pB bq i j) i=T:=by
     have:=aX.out;rw[<-aD,aw (by omega)]at this;exact this
    go_roundg F
    case measure=>omega
    case rel=>exact⟨i,pB bq i j,by rw[HI1],by omega,by omega,by rw[rL];exact uT,F8,D4,gR⟩
   .rw[jC aN]at dB;go_wp2_with (go_at_call 245;refine (dB _ _ (by omega) (aG _)).mono ?_;rintro e w1⟨rfl,au⟩;have ca:=I au;clear au)
    go_end0
    have gR:bq=T:=by
     have:=aX.out;rw[<-aD,aP (by omega)]at this;exact this
    exact⟨rfl,gR▸dP.kept ca,n6.trans (Two.ky (a:=some g) (r:=R) ca) (.inl rfl)⟩
end Go.Proofs.YtilhklpfkgbikaaGreatDoor
