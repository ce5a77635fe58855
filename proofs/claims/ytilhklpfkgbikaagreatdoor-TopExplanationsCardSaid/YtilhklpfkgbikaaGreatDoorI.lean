import Derived.Test.YtilhklpfkgbikaaGreatDoorF
set_option linter.all false
namespace Go.Proofs.YtilhklpfkgbikaaGreatDoor
open Go.RowKit Go.Proofs.Tryz
set_option maxRecDepth 100000
set_option maxHeartbeats 8000000
def C2(s:kj)(o n:J)(a:dh):dh×J:=
 if o=34/\(n<0\/zx (n% 8)=false)then (t0,3)
 else if (if o=34 then n/8 else n)<0\/(s.tb:J)<=(if o=34 then n/8 else n)then (t0,6)
 else
  let t:=s.tb[(if o=34 then n/8 else n).toNat]?.getD vs
  if lr t.dL t.eY s.ms=false\/lr t.cg t.bK s.ms=false\/¬(a.k=t.dL/\a.e=t.eY)then (t0,8)
  else if o=34 then (if t.dL=3/\t.cg=4 then (⟨t.dL,t.eY⟩,0)else (t0,8))else (⟨t.cg,t.bK⟩,0)
def apv(o n dD e4:J)(cH:ak)(s:kj)(w:ag)(bH:qv w cH s)(aA:o=33\/o=34)(aH:n<=9223372036854775807):bg 193 #[aF #[o,n],aF #[dD,e4],cH] w (rM (C2 s o n ⟨dD,e4⟩) w):=by
 obtain⟨c5,ce,cV,cX,eh,ci,kO,cF,ff,lh,rfl,a1,bT,-⟩:=bH.form;have fE:=I (λk e w1(h:Kept w w1)=>On k e _ s.ms w1 (a1.kept h));have cB:=I (λn w1=>abK n w1);obtain⟨pH,fF,aK,-,-,aj⟩:=bT;unfold rM;obtain⟨R,aJ⟩:∃R,R=C2 s o n ⟨dD,e4⟩:=⟨_,rfl⟩;rw[<-aJ];unfold C2 at aJ;have k_:∀(k e c:J)(X:ag),R=(⟨k,e⟩,c)->Kept w X->Ending.returned (bj #[aF #[k,e],c])=bL (bj #[aF #[R.1.k,R.1.e],R.2])/\Kept w X:=λk e c X h ai=>⟨by rw[h],ai⟩;generalize uX:s.ms.length=dS at*;generalize wb:s.tb.length=dd at*;generalize s.ins.length=cC at*;generalize s.ds.length=ei at*;generalize s.md.length=eE at*
 cases aK;clear bH a1;by_cases ao:o=34/\(n<0\/zx (n% 8)=false)
 .rw[aP ao]at aJ;obtain⟨rfl,ao⟩:=ao;have aX:=I aJ;clear aJ aA aj;by_cases ar:n<0
  .go_enter func193,ntmps193
   go_wp2_with fail
   exact bI (v:=bj #[aF #[(),()],ah 3]) (by simp[results,results193,go_sem]) rfl (k_ _ _ _ _ aX (((((aG w).alloc _).alloc _).alloc _).alloc _))
  .have aR:=ao.resolve_left ar;have jS:=I (λw1=>(by have:=cB.out (n% 8) w1;rwa [aR]at this:bg 195 #[ah (n% 8)] w1 λr w'=>r=bL (bR false)/\w1=w'));clear ao aR;go_enter func193,ntmps193
   go_wp2_with (go_at_call 195;refine (jS _).mono ?_;rintro e w1⟨rfl,rfl⟩)
   exact bI (v:=bj #[aF #[(),()],ah 3]) (by simp[results,results193,go_sem]) rfl (k_ _ _ _ _ aX (((((aG w).alloc _).alloc _).alloc _).alloc _))
 rw[aw ao]at aJ;obtain⟨q,az⟩:∃q:J,(if o=34 then n/8 else n)=q:=⟨_,rfl⟩;have hq9:q<=9223372036854775807:=by rw[<-az];split<;>omega
 have si:o=34->¬n<0/\zx (n% 8)=true:=λh=>⟨λar=>ao ⟨h,.inl ar⟩,by cases aK:zx (n% 8);exact absurd ⟨h,.inr aK⟩ ao;rfl⟩;rw[az]at aJ;have aX:=I aJ;have b1:=I az;clear aJ ao az;go_enter func193,ntmps193
 go_upto_region 2 with fail
 generalize aL:(((w.alloc _).alloc _).alloc _).alloc _=W at*;obtain⟨bp,bh,bm,cP,fH⟩:=Kept.h_ aL;clear aL;obtain⟨aY,bq⟩:=bh.p;obtain⟨bu,dW⟩:=cP.p;have bS:=I aj;have eA:=I bm;have j4:=I fH;have e3:=I bh;have mh:=I cP;clear aj bh bm cP fH;rcases aA with rfl|rfl
 case' inl=>
  have az:q=n:=by have:=b1.out;simpa using this.symm
  subst az;clear si hq9;go_upto_region 6 with fail
 case' inr=>
  have az:n/8=q:=b1.out;obtain⟨ar,eI⟩:=si rfl;have jS:=I (λw1=>(by have:=cB.out (n% 8) w1;rwa [eI]at this:bg 195 #[ah (n% 8)] w1 λr w'=>r=bL (bR true)/\w1=w'));clear si eI;go_upto_region 6 with (go_at_call 195;refine (jS _).mono ?_;rintro e w1⟨rfl,rfl⟩)
  simp only[az];clear az ar
 all_goals
  by_cases aC:q<0\/(dd:J)<=q
  .have af:=I (aX.trans (aP aC));have b4:=j4.cell;have gz:=j4.lt;have f4:=j4.frozen;obtain⟨de,aS⟩:=jc 0 0 j4 bp (by omega);have da:=de.cell;rcases aC with aC|aC
   all_goals
    (try (have xA:¬q<0:=by have:=b1.out;omega))
    go_wp2_with fail
    exact bI (v:=bj #[aF #[(),()],ah 6]) (by simp[results,results193,go_sem,da]) rfl (k_ _ _ _ _ af aS)
  .have aJ:=aX.out;rw[aw aC]at aJ;obtain⟨j,rfl⟩:∃j:aa,q=j:=⟨q.toNat,by omega⟩;have hH:(j:J)<dd:=by omega
   obtain⟨b,off,rfl,af,aq⟩:=bS.out (by omega);have al:s.tb[j]?=some (s.tb[j]'(by omega)):=bn _;obtain⟨-,⟨bQ,-⟩,⟨cx,-⟩,⟨hx,-⟩,⟨hK,-⟩,-⟩:=aq j _ al;unfold g' at bQ cx hx hK;rw[c7,al,b9]at aJ;generalize s.tb[j]'(by omega)=T at*;obtain⟨aM,dL,eY,cg,bK,rows⟩:=T;dsimp only at bQ cx hx hK aJ;have hE:=bG af bp.size;have dr:=bp.aI af bQ;have eV:=bp.aI af cx;have jP:=bp.aI af hx;have pF:=bp.aI af hK;have Fu:=I aJ;clear aJ aX b1 aq al bQ cx hx hK aC;go_upto_region 8 with fail
   have l3':w.heap.size+1+1<W+1:=by omega
   have arN:b<W+1:=by omega
   have fL:=bu 1;go_cut [9,10] (λauK p10 cj=>∃(g9 g10:aa),auK= .pointer (some (g9,0))/\p10= .pointer (some (g10,0))/\Kept W cj/\aB cj g9 94 #[dL,eY]/\aB cj g10 94 #[cg,bK])
   case first=>
    go_region
    all_goals
     go_wp2_with fail
     go_meet
     case rel=>first
      |exact⟨_,_,rfl,rfl,(((aG W).alloc _).alloc _).drew,(aB.adA W _ _ _).drew,((aB.new W _ _).alloc _).drew⟩
      |exact⟨_,_,rfl,rfl,(((aG W).alloc _).alloc _).drew,((aB.new W _ _).alloc _).drew,(aB.adA W _ _ _).drew⟩
   case rest=>
    obtain⟨g9,g10,rfl,rfl,ai,nf,D10⟩:=hcut;generalize wc=ha at*;have c3:=bp.trans ai;have gN:=e3.kept ai;have df:=eA.kept ai;have ev:=mh.kept ai;have tx:=j4.kept ai;have E_:=nf;have jF:=D10;obtain⟨cc1,cl1⟩:=gN.p;obtain⟨P8,Qa⟩:=df.p;obtain⟨Vg,Vl⟩:=ev.p;obtain⟨cc9,cl9⟩:=E_.p;obtain⟨cc0,cl0⟩:=jF.p;have zV:=Fu.out;have r0:=I (λw1 h=>fE dL eY w1 h);have sM:=I (λw1 h=>fE cg bK w1 h);clear Fu nf D10 fE bS e3 eA mh j4 aY bq bu dW ai fL
    (try clear jS)
    cases fU:lr dL eY s.ms
    .have cW:=I (zV.trans (aP (.inl fU)));rw[fU]at r0;clear zV;go_wp2_with (go_at_call_of 105 (Value.agg #[Value.int IntKind.i64 dL,Value.int IntKind.i64 eY]);refine (r0 _ c3).mono ?_;rintro e ch⟨rfl,bF⟩;have eO:=c3.trans bF;have dO:=gN.kept bF;have IG:=dO.cell;have LW:=dO.lt;have fh:=df.kept bF;have BR:=fh.cell;have LX:=fh.lt;have jr:=ev.kept bF;have LP:=jr.cell;have LY:=jr.lt;have nf:=E_.kept bF;have LR:=nf.cell;have II:=nf.lt;have k8:=jF.kept bF;have IF:=k8.cell;have LV:=k8.lt;have kA:=tx.kept bF;have LS:=kA.frozen;have LZ:=kA.lt;have LQ:=kA.cell)
     obtain⟨de,aS⟩:=jc 0 0 kA eO (by omega);have da:=de.cell;exact bI (v:=bj #[aF #[(),()],ah 8]) (by simp[results,results193,go_sem,da]) rfl (k_ _ _ _ _ cW aS)
    rw[fU]at r0
    cases hd:lr cg bK s.ms
    .have cW:=I (zV.trans (aP (.inr (.inl hd))));rw[hd]at sM;clear zV;go_wp2_with (first
      |(go_at_call_of 105 (Value.agg #[Value.int IntKind.i64 dL,Value.int IntKind.i64 eY]);refine (r0 _ c3).mono ?_;rintro e ch⟨rfl,bF⟩;have eO:=c3.trans bF;have dO:=gN.kept bF;have IG:=dO.cell;have LW:=dO.lt;have fh:=df.kept bF;have BR:=fh.cell;have LX:=fh.lt;have jr:=ev.kept bF;have LP:=jr.cell;have LY:=jr.lt;have nf:=E_.kept bF;have LR:=nf.cell;have II:=nf.lt;have k8:=jF.kept bF;have IF:=k8.cell;have LV:=k8.lt;have kA:=tx.kept bF;have LS:=kA.frozen;have LZ:=kA.lt;have LQ:=kA.cell)
      |(go_at_call_of 105 (Value.agg #[Value.int IntKind.i64 cg,Value.int IntKind.i64 bK]);refine (sM _ eO).mono ?_;rintro e eK⟨rfl,ck⟩;have eB:=eO.trans ck;have iG:=dO.kept ck;have Qj:=iG.cell;have Qq:=iG.lt;have qo:=fh.kept ck;have Qk:=qo.cell;have Qr:=qo.lt;have uw:=jr.kept ck;have Ql:=uw.cell;have Qs:=uw.lt;have qp:=nf.kept ck;have Qn:=qp.cell;have Qu:=qp.lt;have mf:=k8.kept ck;have Qi:=mf.cell;have Qp:=mf.lt;have ng:=kA.kept ck;have Qo:=ng.frozen;have Qt:=ng.lt;have Qm:=ng.cell))
     obtain⟨de,aS⟩:=jc 0 0 ng eB (by omega);have da:=de.cell;exact bI (v:=bj #[aF #[(),()],ah 8]) (by simp[results,results193,go_sem,da]) rfl (k_ _ _ _ _ cW aS)
    rw[hd]at sM;by_cases y0:dD=dL
    case neg=>
     have cW:=I (zV.trans (aP (.inr (.inr (λh=>y0 h.1)))));have arH:(dD==dL)=false:=by simpa using y0
     clear zV;go_wp2_with (first
      |(go_at_call_of 105 (Value.agg #[Value.int IntKind.i64 dL,Value.int IntKind.i64 eY]);refine (r0 _ c3).mono ?_;rintro e ch⟨rfl,bF⟩;have eO:=c3.trans bF;have dO:=gN.kept bF;have IG:=dO.cell;have LW:=dO.lt;have fh:=df.kept bF;have BR:=fh.cell;have LX:=fh.lt;have jr:=ev.kept bF;have LP:=jr.cell;have LY:=jr.lt;have nf:=E_.kept bF;have LR:=nf.cell;have II:=nf.lt;have k8:=jF.kept bF;have IF:=k8.cell;have LV:=k8.lt;have kA:=tx.kept bF;have LS:=kA.frozen;have LZ:=kA.lt;have LQ:=kA.cell)
      |(go_at_call_of 105 (Value.agg #[Value.int IntKind.i64 cg,Value.int IntKind.i64 bK]);refine (sM _ eO).mono ?_;rintro e eK⟨rfl,ck⟩;have eB:=eO.trans ck;have iG:=dO.kept ck;have Qj:=iG.cell;have Qq:=iG.lt;have qo:=fh.kept ck;have Qk:=qo.cell;have Qr:=qo.lt;have uw:=jr.kept ck;have Ql:=uw.cell;have Qs:=uw.lt;have qp:=nf.kept ck;have Qn:=qp.cell;have Qu:=qp.lt;have mf:=k8.kept ck;have Qi:=mf.cell;have Qp:=mf.lt;have ng:=kA.kept ck;have Qo:=ng.frozen;have Qt:=ng.lt;have Qm:=ng.cell))
     obtain⟨de,aS⟩:=jc 0 0 ng eB (by omega);have da:=de.cell;exact bI (v:=bj #[aF #[(),()],ah 8]) (by simp[results,results193,go_sem,da]) rfl (k_ _ _ _ _ cW aS)
    by_cases MF:e4=eY
    case neg=>
     have cW:=I (zV.trans (aP (.inr (.inr (λh=>MF h.2)))));have arE:(e4==eY)=false:=by simpa using MF
     clear zV;replace y0:=y0.symm;subst y0;go_wp2_with (first
      |(go_at_call_of 105 (Value.agg #[Value.int IntKind.i64 dL,Value.int IntKind.i64 eY]);refine (r0 _ c3).mono ?_;rintro e ch⟨rfl,bF⟩;have eO:=c3.trans bF;have dO:=gN.kept bF;have IG:=dO.cell;have LW:=dO.lt;have fh:=df.kept bF;have BR:=fh.cell;have LX:=fh.lt;have jr:=ev.kept bF;have LP:=jr.cell;have LY:=jr.lt;have nf:=E_.kept bF;have LR:=nf.cell;have II:=nf.lt;have k8:=jF.kept bF;have IF:=k8.cell;have LV:=k8.lt;have kA:=tx.kept bF;have LS:=kA.frozen;have LZ:=kA.lt;have LQ:=kA.cell)
      |(go_at_call_of 105 (Value.agg #[Value.int IntKind.i64 cg,Value.int IntKind.i64 bK]);refine (sM _ eO).mono ?_;rintro e eK⟨rfl,ck⟩;have eB:=eO.trans ck;have iG:=dO.kept ck;have Qj:=iG.cell;have Qq:=iG.lt;have qo:=fh.kept ck;have Qk:=qo.cell;have Qr:=qo.lt;have uw:=jr.kept ck;have Ql:=uw.cell;have Qs:=uw.lt;have qp:=nf.kept ck;have Qn:=qp.cell;have Qu:=qp.lt;have mf:=k8.kept ck;have Qi:=mf.cell;have Qp:=mf.lt;have ng:=kA.kept ck;have Qo:=ng.frozen;have Qt:=ng.lt;have Qm:=ng.cell))
     obtain⟨de,aS⟩:=jc 0 0 ng eB (by omega);have da:=de.cell;exact bI (v:=bj #[aF #[(),()],ah 8]) (by simp[results,results193,go_sem,da]) rfl (k_ _ _ _ _ cW aS)
    replace y0:=y0.symm;replace MF:=MF.symm;subst y0 MF;have zW:=zV.trans (aw (by rw[fU,hd];simp));clear zV fU hd
    first
    |(have cW:=I (zW.trans (aw (by decide)))
      clear zW;go_wp2_with (first
       |(go_at_call_of 105 (Value.agg #[Value.int IntKind.i64 dL,Value.int IntKind.i64 eY]);refine (r0 _ c3).mono ?_;rintro e ch⟨rfl,bF⟩;have eO:=c3.trans bF;have dO:=gN.kept bF;have IG:=dO.cell;have LW:=dO.lt;have fh:=df.kept bF;have BR:=fh.cell;have LX:=fh.lt;have jr:=ev.kept bF;have LP:=jr.cell;have LY:=jr.lt;have nf:=E_.kept bF;have LR:=nf.cell;have II:=nf.lt;have k8:=jF.kept bF;have IF:=k8.cell;have LV:=k8.lt;have kA:=tx.kept bF;have LS:=kA.frozen;have LZ:=kA.lt;have LQ:=kA.cell)
       |(go_at_call_of 105 (Value.agg #[Value.int IntKind.i64 cg,Value.int IntKind.i64 bK]);refine (sM _ eO).mono ?_;rintro e eK⟨rfl,ck⟩;have eB:=eO.trans ck;have iG:=dO.kept ck;have Qj:=iG.cell;have Qq:=iG.lt;have qo:=fh.kept ck;have Qk:=qo.cell;have Qr:=qo.lt;have uw:=jr.kept ck;have Ql:=uw.cell;have Qs:=uw.lt;have qp:=nf.kept ck;have Qn:=qp.cell;have Qu:=qp.lt;have mf:=k8.kept ck;have Qi:=mf.cell;have Qp:=mf.lt;have ng:=kA.kept ck;have Qo:=ng.frozen;have Qt:=ng.lt;have Qm:=ng.cell))
      obtain⟨de,aS⟩:=jc cg bK ng eB (by omega);have da:=de.cell;exact bI (v:=bj #[aF #[cg,bK],()]) (by simp[results,results193,go_sem,da]) rfl (k_ _ _ _ _ cW aS))
    |(have HO:=zW.trans (aP (by decide))
      clear zW;go_upto_region 11 with (first
       |(go_at_call_of 105 (Value.agg #[Value.int IntKind.i64 dL,Value.int IntKind.i64 eY]);refine (r0 _ c3).mono ?_;rintro e ch⟨rfl,bF⟩;have eO:=c3.trans bF;have dO:=gN.kept bF;have IG:=dO.cell;have LW:=dO.lt;have fh:=df.kept bF;have BR:=fh.cell;have LX:=fh.lt;have jr:=ev.kept bF;have LP:=jr.cell;have LY:=jr.lt;have nf:=E_.kept bF;have LR:=nf.cell;have II:=nf.lt;have k8:=jF.kept bF;have IF:=k8.cell;have LV:=k8.lt;have kA:=tx.kept bF;have LS:=kA.frozen;have LZ:=kA.lt;have LQ:=kA.cell)
       |(go_at_call_of 105 (Value.agg #[Value.int IntKind.i64 cg,Value.int IntKind.i64 bK]);refine (sM _ eO).mono ?_;rintro e eK⟨rfl,ck⟩;have eB:=eO.trans ck;have iG:=dO.kept ck;have Qj:=iG.cell;have Qq:=iG.lt;have qo:=fh.kept ck;have Qk:=qo.cell;have Qr:=qo.lt;have uw:=jr.kept ck;have Ql:=uw.cell;have Qs:=uw.lt;have qp:=nf.kept ck;have Qn:=qp.cell;have Qu:=qp.lt;have mf:=k8.kept ck;have Qi:=mf.cell;have Qp:=mf.lt;have ng:=kA.kept ck;have Qo:=ng.frozen;have Qt:=ng.lt;have Qm:=ng.cell))
      by_cases ao:dL=3<;>by_cases aR:cg=4
      all_goals
       (try (have h3b:(dL==3)=false:=by simpa using ao))
       (try (have h4b:(cg==4)=false:=by simpa using aR))
       have cW:=I HO;clear HO
       (try subst ao)
       (try subst aR)
       go_wp2_with fail
       first
       |(obtain⟨de,aS⟩:=jc 0 0 ng eB (by omega)
         have da:=de.cell;exact bI (v:=bj #[aF #[(),()],ah 8]) (by simp[results,results193,go_sem,da]) rfl (k_ _ _ _ _ (by rw[cW,aw (by simp[*])];rfl) aS))
       |(obtain⟨de,aS⟩:=jc 3 eY ng eB (by omega)
         have da:=de.cell;exact bI (v:=bj #[aF #[ah 3,eY],()]) (by simp[results,results193,go_sem,da]) rfl (k_ _ _ _ _ (by rw[cW];simp) aS)))
end Go.Proofs.YtilhklpfkgbikaaGreatDoor
