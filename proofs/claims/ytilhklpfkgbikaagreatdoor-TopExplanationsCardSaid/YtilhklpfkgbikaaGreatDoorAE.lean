import Derived.Test.YtilhklpfkgbikaaGreatDoorAD
set_option linter.all false
namespace Go.Proofs.YtilhklpfkgbikaaGreatDoor
open Go.RowKit Go.Proofs.Tryz
set_option maxRecDepth 100000
set_option maxHeartbeats 32000000
def abv{w:ag}{B:aa}{A:gu}{n cap:aa}{l:aW}(x:J)(h:dj w B (ae A n cap) l)(av:l.length<=2000000):bg 122 #[ae A n cap,x] w (fo (l.contains x) w):=by
 obtain⟨pH,fF,he,aj⟩:=gw.at_ h.reads
 cases he;by_cases ar:l.length=0
 .have:l=[]:=oC.1 ar;subst this;exact (Tryz.slices_Contains_int_empty A cap x w).mono λ_ _ h=>⟨h.1,h.2▸aG _⟩
 .obtain⟨b,off,rfl,af,aq⟩:=aj (by omega);refine (Tryz.slices_Contains_int b off l cap l x w (bB _) (by omega) λi aD=> ?_).mono λ_ _ h=>⟨?_,h.2▸aG _⟩
  .have al:l[i]?=some (l.getD i 0):=by rw[List.getD_eq_getElem?_getD,bn aD];rfl
   exact aq i _ al
  .rw[h.1,x3]
def ahQ(cm:ak)(l:cO)(i:aa)(s:cq)(w:ag)(bE:h1 w cm l)(aD:l.sc[i]?=some s):bg 85 #[cm,i] w (ob (lA l i s) w):=by
 have w3:=I (λw1(h:Kept w w1)=>aoP cm l i s w1 (bE.kept h) aD);unfold Zb at w3;obtain⟨dw,cM,cH,rfl,ar,ab,ad⟩:=bE;have fB:=(b2 aD).1;have cW:=I (λw1(h:Kept w w1)=>WI dw _ s.aM w1 (ar.kept n2.kept h));have c8:=I (λw1(h:Kept w w1)=>ab9 cM _ s.aM w1 (ab.kept ld.kept h));have KA:=I (λw1(h:Kept w w1)=>(Qw ar).kept h);obtain⟨c5,eW,rfl,-⟩:=id ar;obtain⟨cV,cX,rfl,-⟩:=id ab;obtain⟨hM,fJ,rfl,hcS,Ro,wo⟩:=id ad;obtain⟨tP,os,rfl,af,aq⟩:=wo (by omega);have eb:=I (λg w1(h:Kept w w1)(cd:ly w1 g 0 s.aM)=>aiE _ _ g 0 s.aM w1 ((c0.take ad (ui fB)).kept yy.kept h) cd);unfold fo at cW c8 eb;obtain⟨⟨t0,ir⟩,⟨t1,aty⟩,⟨_,t2,b6⟩,⟨_,t3,cY⟩,⟨_,t4,ja⟩⟩:=aq i _ aD;have yh:=I (λw1=>Nv s.aM ir w1);obtain⟨eh,fR,rfl,hcI,hlI,hxI⟩:=id b6;obtain⟨kO,DM,rfl,hcD,hlD,hxD⟩:=id cY;obtain⟨sC,DN,rfl,hcR,hlR,wm⟩:=id ja;have T1:=I (λ(j:aa)(f:mI)w1(h:Kept w w1)(ay:s.ins[j]?=some f)(bV:f.aM.size<=140737488355328)=>abb (ae c5 l.bs eW) (ae cV l.tb cX) (ae (some (tP,os)) l.sc fJ) (ae eh j fR) bf l.ms f (s.ins.take j) [] _ _ _ _ _ _ rfl rfl w1 (KA w1 h) ((c0.take b6 (ui (b2 ay).1)).kept jt.kept h) ⟨none,0,rfl,by simp,by simp,λh=>absurd h (by simp)⟩ bV);have vM:=I (λ(j:aa)(f:mI)w1(h:Kept w w1)(ay:s.ds[j]?=some f)(bV:f.aM.size<=140737488355328)=>abb (ae c5 l.bs eW) (ae cV l.tb cX) (ae (some (tP,os)) l.sc fJ) (ae eh s.ins fR) (ae kO j DM) l.ms f s.ins (s.ds.take j) _ _ _ _ _ _ rfl rfl w1 (KA w1 h) (b6.kept jt.kept h) ((c0.take cY (ui (b2 ay).1)).kept jt.kept h) bV);have tG:=I (λ(iD:kj)(sgv:ak)(j:aa)(r:br)w1(h:Kept w w1)(bH:qv w1 sgv iD)(ay:s.rs[j]?=some r)=>ahP _ _ _ sgv s iD j r w1 (b6.kept jt.kept h) (cY.kept jt.kept h) (ja.kept lz.kept h) bH ay);have zZ:=I (λ(aJ:qw s.rs)(aH:s.ds.length<=1000)(d:J)w1(h:Kept w w1)=>Zs _ s d w1 ⟨_,_,_,rfl,b6.kept jt.kept h,cY.kept jt.kept h,ja.kept lz.kept h⟩ aJ aH);unfold lg at T1 vM tG;unfold tj at zZ;obtain⟨Q,cL⟩:∃Q,Q=lA l i s:=⟨_,rfl⟩;rw[<-cL];have b1:=I cL;have e':=I (λ(c:J)(aq:c≠0)(h:¬lA l i s)=>(show c=0↔Q from⟨λe=>absurd e aq,λq=>absurd (b1▸q) h⟩));unfold g' at t0 t1 t2 t3 t4;have wg:(i:J)<l.sc.length:=by omega
 have Gz:(i:J)<=fJ:=by omega
 have hi6:(i:J)<=8796093022208:=by omega
 have ct:=I aq;have HXI:=I hxI;have UA:=I hxD;have Pl:=I wm;generalize AA:s.aM=aM at*;generalize jW:s.ms=iB at*;generalize s7:s.ins.length=cC at*;generalize y7:s.ds.length=ei at*;generalize Cn:s.rs.length=jb at*;generalize ot:l.sc.length=fO at*;generalize l.bs.length=dS at*;generalize l.tb.length=dd at*;have pN:=I AA;have tC:=I jW;have q6:=I s7;have j5:=I y7;have wW:=I Cn;have Bm:=I ot;have h7:=I ir;clear ar ab ad b6 cY ja wo aq cL hxI hxD wm s7 y7 Cn AA jW ot ir;go_enter func85,ntmps85
 go_upto_region 1 with fail
 have bh:=aB.new w 26 #[ae c5 dS eW,ae cV dd cX,ae (some (tP,os)) fO fJ];have ca:=(aG w).alloc (.cells #[ae c5 dS eW,ae cV dd cX,ae (some (tP,os)) fO fJ] 26);obtain⟨aY,bq⟩:=bh.p;have eU:=ca.aI af t0;have dr:=ca.aI af t1;have eV:=ca.aI af t2;have jP:=ca.aI af t3;have pF:=ca.aI af t4;have mw:=bG af ca.size;clear ca bh t0 t1 t2 t3 t4;go_upto_region 2 with fail
 generalize aL:(w.alloc _).alloc _=W at*;obtain⟨bp,bh,bm⟩:=Kept.a_ aL;clear aL;have pj:(w.alloc (.cells #[ae c5 dS eW,ae cV dd cX,ae (some (tP,os)) fO fJ] 26)).heap.size=w.heap.size+1:=by simp
 try rw[pj]
 clear aY bq eU dr eV jP pF mw pj;have e3:=I (λw1(h:Kept W w1)=>bh.kept h);have eA:=I (λw1(h:Kept W w1)=>bm.kept h);have b3:=I (λw1(h:Kept W w1)=>ly.kept (s:=aM) (g:=w.heap.size+1) (o:=0) ⟨bm.lt,bm.cell 0⟩ h);obtain⟨aY,bq⟩:=bh.p;obtain⟨a',b5⟩:=bm.p;clear bh bm;go_upto_region 3 with fail
 go_cut [8] (λz cj=>∃q:Bool,z=bR q/\(q=false↔fV aM (l.bs.map (·.aM))=false/\fV aM (l.tb.map (·.aM))=false/\fV aM ((l.sc.take i).map (·.aM))=false)/\Kept W cj)
 case first=>
  cases jn:fV aM (l.bs.map (·.aM))
  case true=>
   rw[jn]at cW;go_wp2_with (go_at_call 83;refine (cW _ bp).mono ?_;rintro aQ w1⟨rfl,au⟩)
   go_meet;exact⟨_,rfl,by rw[jn];simp,au⟩
  case false=>
  cases iX:fV aM (l.tb.map (·.aM))
  case true=>
   rw[jn]at cW;rw[iX]at c8;go_wp2_with (first|(go_at_call 83;refine (cW _ bp).mono ?_;rintro aQ w1⟨rfl,au⟩;obtain⟨dE,jk⟩:=Kept.cells au;have cG:=au.size;(try simp at cG))|(go_at_call 84;refine (c8 _ (bp.trans au)).mono ?_;rintro aQ w2⟨rfl,bt⟩))
   go_meet;exact⟨_,rfl,by rw[jn,iX];simp,au.trans bt⟩
  case false=>
   rw[jn]at cW;rw[iX]at c8;generalize fV aM ((l.sc.take i).map (·.aM))=dI at*;go_wp2_with (first|(go_at_call 83;refine (cW _ bp).mono ?_;rintro aQ w1⟨rfl,au⟩;obtain⟨dE,jk⟩:=Kept.cells au;have cG:=au.size;(try simp at cG))|(go_at_call 84;refine (c8 _ (bp.trans au)).mono ?_;rintro aQ w2⟨rfl,bt⟩;obtain⟨jj,Cg⟩:=Kept.cells bt;have eM:=bt.size;(try simp at eM))|(go_at_call 117;refine (eb _ _ ((bp.trans au).trans bt) (b3 _ (au.trans bt))).mono ?_;rintro aQ ch⟨rfl,bF⟩))
   go_meet;exact⟨dI,rfl,by rw[jn,iX];simp,(au.trans bt).trans bF⟩
 case rest=>
 obtain⟨q,rfl,Nj,au⟩:=hcut;have vQ:=I Nj;clear Nj;generalize wc=dV at*;have vS:=bp.trans au;clear aY bq a' b5 cW c8 eb;have d1:=(e3 _ au).cell;have m1:=(e3 _ au).lt;have d2:=(eA _ au).cell;have m2:=(eA _ au).lt
 cases p3:nP (L aM)
 case false=>
  have az:=I (e' 2 (by decide) (λh=>by have:=h.id;rw[pN,p3]at this;cases this));rw[p3]at yh;go_wp2_with (go_at_call 82;refine (yh _).mono ?_;rintro aQ w2⟨rfl,rfl⟩)
  go_returns;exact (ob.mk az (by decide) (by decide) vS)
 case true=>
 rw[p3]at yh;go_upto_region 6 with (go_at_call 82;refine (yh _).mono ?_;rintro aQ w2⟨rfl,rfl⟩)
 clear yh
 cases q
 case true=>
  have az:=I (e' 7 (by decide) (λh=>absurd (vQ.2 (by rw[<-pN];exact⟨h.ne,h.jZ,h.zn⟩)) (by decide)));go_wp2_with fail
  go_returns;exact (ob.mk az (by decide) (by decide) vS)
 case false=>
 have qt:=I (vQ.1 rfl);clear vQ;go_upto_region 8 with fail
 go_cut [52] (λz cj=>∃q:Bool,z=bR q/\Kept dV cj/\(q=false↔(iB= -1\/(0<=iB/\iB<i/\∀t,l.sc[iB.toNat]?=some t->t.ms= -1))))
 case first=>
  by_cases hp:iB= -1
  .have rz:(iB != -1)=false:=by simpa using hp
   have bM:Hid (iB= -1\/(0<=iB/\iB<i/\∀t,l.sc[iB.toNat]?=some t->t.ms= -1)):=I (Or.inl hp);clear hp;go_wp2_with fail
   go_meet;exact⟨false,rfl,aG _,λ_=>bM,λ_=>rfl⟩
  have rz:(iB != -1)=true:=by simpa using hp
  by_cases xy:iB<0
  .have bM:Hid (¬(iB= -1\/(0<=iB/\iB<i/\∀t,l.sc[iB.toNat]?=some t->t.ms= -1))):=I (λh=>by omega);clear hp;go_wp2_with fail
   go_meet;exact⟨true,rfl,aG _,(λh=>by cases h),λh=>absurd h bM⟩
  by_cases s8:(i:J)<=iB
  .have bM:Hid (¬(iB= -1\/(0<=iB/\iB<i/\∀t,l.sc[iB.toNat]?=some t->t.ms= -1))):=I (λh=>by omega);clear hp;go_wp2_with fail
   go_meet;exact⟨true,rfl,aG _,(λh=>by cases h),λh=>absurd h bM⟩
  obtain⟨k,ai⟩:∃k:aa,iB=k:=⟨iB.toNat,by omega⟩;have l8:k<l.sc.length:=by have:=Bm.out;omega
  have al:l.sc[k]?=some l.sc[k]:=bn l8;obtain⟨-,⟨fL,-⟩,-⟩:=ct.out k _ al;unfold g' at fL;have uC:Hid ((iB= -1\/(0<=iB/\iB<i/\∀t,l.sc[iB.toNat]?=some t->t.ms= -1))↔l.sc[k].ms= -1):=I (by
   rw[ai,c7,al];simp;omega)
  generalize l.sc[k].ms=pm at*;have mw:=bG af vS.size;replace fL:=vS.aI af fL;rw[ai]at rz xy s8 d2;have lF:(k:J)<i:=by omega
  clear hp al;by_cases aE:pm= -1
  .have tU:(pm != -1)=false:=by simpa using aE
   have bM:Hid (iB= -1\/(0<=iB/\iB<i/\∀t,l.sc[iB.toNat]?=some t->t.ms= -1)):=I (uC.2 aE);clear aE uC;go_wp2_with fail
   go_meet;exact⟨false,rfl,aG _,λ_=>bM,λ_=>rfl⟩
  .have tU:(pm != -1)=true:=by simpa using aE
   have bM:Hid (¬(iB= -1\/(0<=iB/\iB<i/\∀t,l.sc[iB.toNat]?=some t->t.ms= -1))):=I (λh=>aE (uC.1 h));clear aE uC;go_wp2_with fail
   go_meet;exact⟨true,rfl,aG _,(λh=>by cases h),λh=>absurd h bM⟩
 case rest=>
 obtain⟨ud,rfl,bt,Xv⟩:=hcut;have qs:=I Xv;clear Xv;generalize wc=ha at*;have K9:=vS.trans bt;have GM:=au.trans bt;clear d1 m1 d2 m2;have d1:=(e3 _ GM).cell;have m1:=(e3 _ GM).lt;have d2:=(eA _ GM).cell;have m2:=(eA _ GM).lt
 cases ud
 case true=>
  have az:=I (e' 6 (by decide) (λh=>absurd (qs.2 (by have:=h.ms;rwa [tC]at this)) (by decide)));go_wp2_with fail
  go_returns;exact (ob.mk az (by decide) (by decide) K9)
 case false=>
 have HM5:=I (qs.1 rfl);clear qs;by_cases DV:12<cC
 .have ajB:(12:J)<cC:=by omega
  have az:=I (e' 4 (by decide) (λh=>by have:=h.i12;rw[q6]at this;omega));clear DV;go_wp2_with fail
  go_returns;exact (ob.mk az (by decide) (by decide) K9)
 have ajB:¬((12:J)<cC):=by omega
 by_cases h13:12<ei
 .have ajC:(12:J)<ei:=by omega
  have az:=I (e' 4 (by decide) (λh=>by have:=h.d12;rw[j5]at this;omega));clear DV h13;go_wp2_with fail
  go_returns;exact (ob.mk az (by decide) (by decide) K9)
 have ajC:¬((12:J)<ei):=by omega
 have H12:=I (show cC<=12 by omega);have OP:=I (show ei<=12 by omega);have e3:=I (λw1(h:Kept ha w1)=>e3 _ (GM.trans h));have eA:=I (λw1(h:Kept ha w1)=>eA _ (GM.trans h));have hk:=I K9;clear DV h13 au bt GM bp vS K9 b3;go_wp2_with fail
 clear d1 m1 d2 m2;go_loopw [89] (λz wr=>∃j:aa,z=ah j/\j<=cC/\Kept ha wr/\∀k f,k<j->s.ins[k]?=some f->q3 l.ms f (s.ins.take k) []) (λz _=>cC-(intOf z).toNat)
 case atStart=>exact⟨0,rfl,d' _,aG _,λ_ _ h=>absurd h (uo _)⟩
 case round=>
  obtain⟨j,rfl,hH,ax,l6⟩:=hrel;have cU:=I l6;clear l6;have aQ:=(e3 _ ax).cell;have m1:=(e3 _ ax).lt;have a_:=(eA _ ax).cell;have m2:=(eA _ ax).lt;by_cases aN:j<cC
  .have hg:s.ins[j]?=some (s.ins[j]'(by rw[q6];exact aN)):=bn _;obtain⟨b,off,rfl,oj,aq⟩:=HXI.out (by omega);obtain⟨⟨t0,ie⟩,⟨t1,-⟩,⟨t2,-⟩⟩:=aq j _ hg;generalize s6:s.ins[j]'(by rw[q6];exact aN)=f at*;have lW:=I hg;unfold g' at t0 t1 t2;have en:=hk.trans ax;replace t0:=en.aI oj t0;replace t1:=en.aI oj t1;replace t2:=en.aI oj t2;have qG:=bG oj en.size;have kT:(j:J)<cC:=by omega
   have M1:(j:J)<=fR:=by omega
   have sH:=I (λw1(h:Kept wr w1)=>T1 j f w1 (en.trans h) hg ie);have gi:=I en;have Kv:=I (λw1(h:Kept wr w1)=>e3 _ (ax.trans h));have Kw:=I (λw1(h:Kept wr w1)=>eA _ (ax.trans h));clear hg s6 aq en;go_upto_region 17 with fail
   generalize aL:wr.alloc _=V at*;obtain⟨du,cP⟩:=Kept.aQ aL;clear aL;have iS:=I du;clear aQ m1 a_ m2 t0 t1 t2 qG;generalize wr.heap.size=g3 at*;clear du;go_cut [11] (λt cj=>∃c:J,t=ah c/\(c=0↔q3 l.ms f (s.ins.take j) [])/\Kept V cj)
   case first=>
    have eF:=I (show∀X,Kept V X->(Kept V X/\aU X (w,0)=some (ae c5 dS eW)/\aU X (w,1)=some (ae cV dd cX)/\aU X (w,2)=some (ae (some (tP,os)) fO fJ)/\aU X (w.heap.size+1,2)=some (ae (some (b,off)) cC fR)/\aU X (g3,0)=some (.string f.aM)/\aU X (g3,1)=some (ah f.k)/\aU X (g3,2)=some (ah f.e))from λX h=>by
     have dO:=Kv.out _ (iS.trans h);have fh:=Kw.out _ (iS.trans h);exact⟨h,dO.cell 0,dO.cell 1,dO.cell 2,fh.cell 2,(cP.kept h).cell 0,(cP.kept h).cell 1,(cP.kept h).cell 2⟩)
    have lw3:=cP.lt;have lw2:=(Kw _ iS).lt;have lw1:=(Kv _ iS).lt;obtain⟨-,z0,fL,z2,z3,z4,z5,EZ⟩:=eF.out V (aG _);clear cP;go_region_held3 (λX=>Kept V X/\aU X (w,0)=some (ae c5 dS eW)/\aU X (w,1)=some (ae cV dd cX)/\aU X (w,2)=some (ae (some (tP,os)) fO fJ)/\aU X (w.heap.size+1,2)=some (ae (some (b,off)) cC fR)/\aU X (g3,0)=some (.string f.aM)/\aU X (g3,1)=some (ah f.k)/\aU X (g3,2)=some (ah f.e))
     ((refine eF _ ?_;(with_reducible first|exact tJ|exact (aG _).drew)))
     ((go_at_call 119;refine (sH _ (iS.trans ?_)).mono ?_;(·exact (aG _).drew);rintro e eK⟨c,rfl,nn,ck⟩;have kf:=I nn;clear nn;have tJ:Kept V eK:=(by (exact (aG _).drew.trans ck))))
    rename_i hHeld;clear hHeld;go_wp2_with fail
    go_meet;exact⟨c,rfl,kf,tJ⟩
   case rest=>
   obtain⟨c,rfl,nn,ck⟩:=hcut;have kf:=I nn;have eB:=I (iS.trans ck);clear nn sH cP;generalize wc=X at*;by_cases hG:c=0
   .have h':=kf.1 hG;subst hG;have nh:=I (show∀k f,k<j+1->s.ins[k]?=some f->q3 l.ms f (s.ins.take k) []from λk nm ai hm=>by
     rcases De.1 ai with h|rfl
     .exact cU k nm h hm
     .have he:=lW.symm.trans hm
      cases he;exact h')
    clear h' kf;go_wp2_with fail
    go_roundw
    case rel=>exact⟨j+1,by go_num,aN,ax.trans eB,nh⟩
    case measure=>simp[intOf];omega
   .have jv:(c !=0)=true:=by simpa using hG
    have az:=I (e' c hG λh=>hG (kf.2 (h.ins j f lW)));have hf: -9223372036854775808<=(100:J)+j:=by omega
    have mx:(100:J)+j<=9223372036854775807:=by omega
    clear hG kf;go_wp2_with fail
    go_returns;exact (ob.mk az hf mx (gi.trans eB))
  obtain rfl:cC=j:=by omega
  have kT:¬((cC:J)<cC):=by omega
  have agj:=I (show∀k f,s.ins[k]?=some f->q3 l.ms f (s.ins.take k) []from λk f hm=>cU k f (by rw[<-q6];exact (b2 hm).1) hm);clear cU T1;go_wp2_with fail
  clear aQ m1 a_ m2;go_loopw [110] (λz wr=>∃j:aa,z=ah j/\j<=ei/\Kept ha wr/\∀k f,k<j->s.ds[k]?=some f->q3 l.ms f s.ins (s.ds.take k)) (λz _=>ei-(intOf z).toNat)
  case atStart=>exact⟨0,rfl,d' _,ax,λ_ _ h=>absurd h (uo _)⟩
  case round=>
   obtain⟨j,rfl,hH,ax,l6⟩:=hrel;have cU:=I l6;clear l6;have aQ:=(e3 _ ax).cell;have m1:=(e3 _ ax).lt;have a_:=(eA _ ax).cell;have m2:=(eA _ ax).lt;by_cases aN:j<ei
   .have hg:s.ds[j]?=some (s.ds[j]'(by rw[j5];exact aN)):=bn _;obtain⟨b,off,rfl,oj,aq⟩:=UA.out (by omega);obtain⟨⟨t0,ie⟩,⟨t1,-⟩,⟨t2,-⟩⟩:=aq j _ hg;generalize s6:s.ds[j]'(by rw[j5];exact aN)=f at*;have lW:=I hg;unfold g' at t0 t1 t2;have en:=hk.trans ax;replace t0:=en.aI oj t0;replace t1:=en.aI oj t1;replace t2:=en.aI oj t2;have qG:=bG oj en.size;have kT:(j:J)<ei:=by omega
    have M1:(j:J)<=DM:=by omega
    have sH:=I (λw1(h:Kept wr w1)=>vM j f w1 (en.trans h) hg ie);have gi:=I en;have Kv:=I (λw1(h:Kept wr w1)=>e3 _ (ax.trans h));have Kw:=I (λw1(h:Kept wr w1)=>eA _ (ax.trans h));clear hg s6 aq en;go_upto_region 24 with fail
    generalize aL:wr.alloc _=V at*;obtain⟨du,cP⟩:=Kept.aQ aL;clear aL;have iS:=I du;clear aQ m1 a_ m2 t0 t1 t2 qG;generalize wr.heap.size=g3 at*;clear du;go_cut [14] (λt cj=>∃c:J,t=ah c/\(c=0↔q3 l.ms f s.ins (s.ds.take j))/\Kept V cj)
    case first=>
     have eF:=I (show∀X,Kept V X->(Kept V X/\aU X (w,0)=some (ae c5 dS eW)/\aU X (w,1)=some (ae cV dd cX)/\aU X (w,2)=some (ae (some (tP,os)) fO fJ)/\aU X (w.heap.size+1,2)=some (ae eh cC fR)/\aU X (w.heap.size+1,3)=some (ae (some (b,off)) ei DM)/\aU X (g3,0)=some (.string f.aM)/\aU X (g3,1)=some (ah f.k)/\aU X (g3,2)=some (ah f.e))from λX h=>by
      have dO:=Kv.out _ (iS.trans h);have fh:=Kw.out _ (iS.trans h);exact⟨h,dO.cell 0,dO.cell 1,dO.cell 2,fh.cell 2,fh.cell 3,(cP.kept h).cell 0,(cP.kept h).cell 1,(cP.kept h).cell 2⟩)
     have lw3:=cP.lt;have lw2:=(Kw _ iS).lt;have lw1:=(Kv _ iS).lt;obtain⟨-,z0,fL,z2,z3,z4,z5,EZ,J8⟩:=eF.out V (aG _);clear cP;go_region_held3 (λX=>Kept V X/\aU X (w,0)=some (ae c5 dS eW)/\aU X (w,1)=some (ae cV dd cX)/\aU X (w,2)=some (ae (some (tP,os)) fO fJ)/\aU X (w.heap.size+1,2)=some (ae eh cC fR)/\aU X (w.heap.size+1,3)=some (ae (some (b,off)) ei DM)/\aU X (g3,0)=some (.string f.aM)/\aU X (g3,1)=some (ah f.k)/\aU X (g3,2)=some (ah f.e))
      ((refine eF _ ?_;(with_reducible first|exact tJ|exact (aG _).drew)))
      ((go_at_call 119;refine (sH _ (iS.trans ?_)).mono ?_;(·exact (aG _).drew);rintro e eK⟨c,rfl,nn,ck⟩;have kf:=I nn;clear nn;have tJ:Kept V eK:=(by (exact (aG _).drew.trans ck))))
     rename_i hHeld;clear hHeld;go_wp2_with fail
     go_meet;exact⟨c,rfl,kf,tJ⟩
    case rest=>
    obtain⟨c,rfl,nn,ck⟩:=hcut;have kf:=I nn;have eB:=I (iS.trans ck);clear nn sH cP;generalize wc=X at*;by_cases hG:c=0
    .have h':=kf.1 hG;subst hG;have nh:=I (show∀k f,k<j+1->s.ds[k]?=some f->q3 l.ms f s.ins (s.ds.take k)from λk nm ai hm=>by
      rcases De.1 ai with h|rfl
      .exact cU k nm h hm
      .have he:=lW.symm.trans hm
       cases he;exact h')
     clear h' kf;go_wp2_with fail
     go_roundw
     case rel=>exact⟨j+1,by go_num,aN,ax.trans eB,nh⟩
     case measure=>simp[intOf];omega
    .have jv:(c !=0)=true:=by simpa using hG
     have az:=I (e' c hG λh=>hG (kf.2 (h.ds j f lW)));have hf: -9223372036854775808<=(200:J)+j:=by omega
     have mx:(200:J)+j<=9223372036854775807:=by omega
     clear hG kf;go_wp2_with fail
     go_returns;exact (ob.mk az hf mx (gi.trans eB))
   obtain rfl:ei=j:=by omega
   have kT:¬((ei:J)<ei):=by omega
   have agi:=I (show∀k f,s.ds[k]?=some f->q3 l.ms f s.ins (s.ds.take k)from λk f hm=>cU k f (by rw[<-j5];exact (b2 hm).1) hm);clear cU vM;go_wp2_with fail
   clear aQ m1 a_ m2;have aQ:=(e3 _ ax).cell;have m1:=(e3 _ ax).lt;have gi:=I (hk.trans ax);have HSX:=I (λw1(h:Kept wr w1)=>w3 w1 (gi.trans h));clear w3;go_upto_region 29 with (go_at_call 120;refine (HSX _ (aG _)).mono ?_;rintro e c4⟨cH,rfl,Jn,cy⟩;have vP:=I Jn;obtain⟨iG,e9,qx,eC,au2,ia,dO,wz,ra,CL,rfl,-⟩:=Jn.form;clear Jn)
   generalize aL:c4.alloc _=Y at*;obtain⟨q_,hq⟩:=Kept.aQ aL;clear aL;have du:=cy.trans q_;generalize c4.heap.size=g5 at*;have vP:=I (vP.kept q_);have Bi:=I (gi.trans du);have HY5:=I (λw1(h:Kept Y w1)=>hq.kept h);have HX:=I (λw1(h:Kept Y w1)=>eA _ (ax.trans (du.trans h)));generalize acG:qa l s=iD at*;have aat:=I acG;clear aQ m1 hq du q_ acG HSX;have a_:=(HX _ (aG _)).cell;have m2:=(HX _ (aG _)).lt;go_wp2_with fail
   clear a_ m2;go_loopw [136] (λz wr=>∃j:aa,z=ah j/\j<=jb/\Kept Y wr/\∀k r,k<j->s.rs[k]?=some r->xd iD s k r) (λz _=>jb-(intOf z).toNat)
   case atStart=>exact⟨0,rfl,d' _,aG _,λ_ _ h=>absurd h (uo _)⟩
   case round=>
    obtain⟨j,rfl,hH,qE,l6⟩:=hrel;have cU:=I l6;clear l6;have a_:=(HX _ qE).cell;have m2:=(HX _ qE).lt;by_cases aN:j<jb
    .have hg:s.rs[j]?=some (s.rs[j]'(by rw[wW];exact aN)):=bn _;generalize s6:s.rs[j]'(by rw[wW];exact aN)=x at*;have lW:=I hg;have kT:(j:J)<jb:=by omega
     have sH:=I (λw1(h:Kept wr w1)=>tG iD _ j x w1 (Bi.trans (qE.trans h)) (vP.kept (qE.trans h)) hg);have ko:=(HY5 _ qE).cell;have m5:=(HY5 _ qE).lt;clear hg s6 tG;go_upto_region 33 with (go_at_call 121;refine (sH _ (aG _)).mono ?_;rintro e dc⟨c,rfl,nn,ey⟩;have kf:=I nn;clear nn)
     clear a_ m2 ko m5 sH;by_cases hG:c=0
     .have h':=kf.1 hG;subst hG;have nh:=I (show∀k r,k<j+1->s.rs[k]?=some r->xd iD s k r from λk nm ai hm=>by
       rcases De.1 ai with h|rfl
       .exact cU k nm h hm
       .have he:=lW.symm.trans hm
        cases he;exact h')
      have M1:(j:J)+1<=9223372036854775807:=by omega
      clear h' kf;go_wp2_with fail
      go_roundw
      case rel=>exact⟨j+1,by go_num,aN,qE.trans ey,nh⟩
      case measure=>simp[intOf];omega
     .have jv:(c !=0)=true:=by simpa using hG
      have az:=I (e' c hG λh=>hG (kf.2 (by have:=h.rs j x lW;rwa [aat]at this)));have hf: -9223372036854775808<=(300:J)+j:=by omega
      have mx:(300:J)+j<=9223372036854775807:=by omega
      clear hG kf;go_wp2_with fail
      go_returns;exact (ob.mk az hf mx (Bi.trans (qE.trans ey)))
    obtain rfl:jb=j:=by omega
    have kT:¬((jb:J)<jb):=by omega
    have aao:=I (show∀k r,s.rs[k]?=some r->xd iD s k r from λk f hm=>cU k f (by rw[<-wW];exact (b2 hm).1) hm);clear cU tG;go_wp2_with fail
    clear a_ m2;have hSM:qw s.rs:=aer aao (by rw[j5];exact OP);have Uw:=I (λ(d:J)w1 h=>zZ hSM (by have:=OP.out;omega) d w1 h);have Dp:=I (λd:J=>(show (ma ei s.rs d).length<=ei by
     unfold ma vm;split
     .rw[er];exact fN (nX _ _) (by rw[vG];exact bB _)
     .exact d' _))
    clear hSM zZ;go_loopw [152] (λz wr=>∃j:aa,z=ah j/\j<=ei/\Kept Y wr/\∀d:aa,d<j->(ma ei s.rs d).contains (d:J)=false) (λz _=>ei-(intOf z).toNat)
    case atStart=>exact⟨0,rfl,d' _,qE,λ_ h=>absurd h (uo _)⟩
    case round=>
     obtain⟨j,rfl,hH,mP,l6⟩:=hrel;have cU:=I l6;clear l6;have a_:=(HX _ mP).cell;have m2:=(HX _ mP).lt;by_cases aN:j<ei
     .have kT:(j:J)<ei:=by omega
      have HI:=I (show (ma ei s.rs j).length<=2000000 by have:=Dp.out j;have:=OP.out;omega);have HS:=I (λw1(h:Kept wr w1)=>Uw j w1 (Bi.trans (mP.trans h)));generalize GF:ma ei s.rs j=T at*;have aav:=I GF;clear GF
      cases az:T.contains (j:J)
      case true=>
       have Cw:=I (e' 9 (by decide) (λh=>by have:=h.ac j (by rw[j5];exact aN);rw[j5,aav,az]at this;cases this));have hf: -9223372036854775808<=(200:J)+j:=by omega
       have mx:(200:J)+j<=9223372036854775807:=by omega
       go_wp2_with (first|(go_at_call 31;refine (HS _ (aG _)).mono ?_;rintro e dc⟨u,rfl,dZ,ey⟩;obtain⟨kR,eg,rfl,-⟩:=gw.at_ dZ.reads;have eG:=I dZ;clear dZ)|(go_at_call 122;refine (abv _ eG HI).mono ?_;rw[az];rintro e lP⟨rfl,xE⟩))
       go_returns;exact (ob.mk Cw hf mx (Bi.trans (mP.trans (ey.trans xE))))
      case false=>
       have nh:=I (show∀d:aa,d<j+1->(ma ei s.rs d).contains (d:J)=false from λd aE=>by
        rcases De.1 aE with h|rfl
        .exact cU d h
        .rw[aav];exact az)
       have M1:(j:J)+1<=9223372036854775807:=by omega
       go_wp2_with (first|(go_at_call 31;refine (HS _ (aG _)).mono ?_;rintro e dc⟨u,rfl,dZ,ey⟩;obtain⟨kR,eg,rfl,-⟩:=gw.at_ dZ.reads;have eG:=I dZ;clear dZ)|(go_at_call 122;refine (abv _ eG HI).mono ?_;rw[az];rintro e lP⟨rfl,xE⟩))
       go_roundw
       case rel=>exact⟨j+1,by go_num,aN,mP.trans (ey.trans xE),nh⟩
       case measure=>simp[intOf];omega
     .obtain rfl:ei=j:=by omega
      have kT:¬((ei:J)<ei):=by omega
      have az:=I (show Q from b1▸⟨by rw[pN];exact qt.1,by rw[pN];exact qt.2.1,by rw[pN];exact qt.2.2,by rw[pN];exact p3,by rw[tC];exact HM5,by rw[q6];exact H12,by rw[j5];exact OP,agj,agi,λj r h=>by rw[aat];exact aao j r h,λd h=>by rw[j5]at h⊢;exact cU d h⟩);clear a_ m2;go_wp2_with fail
      go_returns;exact (ob.mk (iff_of_true rfl az) (by decide) (by decide) (Bi.trans mP))
end Go.Proofs.YtilhklpfkgbikaaGreatDoor
