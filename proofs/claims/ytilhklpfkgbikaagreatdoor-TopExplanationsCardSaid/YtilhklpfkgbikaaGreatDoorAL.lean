import Derived.Test.YtilhklpfkgbikaaGreatDoorAK
set_option linter.all false
namespace Go.Proofs.YtilhklpfkgbikaaGreatDoor
open Go.RowKit Go.Proofs.Tryz
set_option maxRecDepth 100000
set_option maxHeartbeats 32000000
def aaG(B:aa)(v:ak)(l:List (J×J))(x:cw)(w:ag)(h:cb w B 127 hY 2 v l)(av:l.length<=1000000)(bc:B<=w.heap.size)(sZ:x.o=34->0<=x.n/\x.n<=9223372036854775807):bg 97 #[v,aF #[x.o,x.n]] w (qy B v (mo l x) w):=by
 obtain⟨o,n⟩:=x;dsimp only at*;by_cases e:o=7
 .subst e;exact agO B v l n w h av bc
 by_cases e:o=8
 .subst e;exact agP B v l n w h av bc
 by_cases e:o=9
 .subst e;exact agQ B v l n w h av bc
 by_cases e:o=33
 .subst e;exact agI B v l n w h av bc
 by_cases e:o=34
 .subst e;obtain⟨ar,ab⟩:=sZ rfl;have:=agJ B v l n w h av bc ar ab;have a_:mo l ⟨34,n⟩=hl l (some (3,n/8)):=by
   show hl l (some (3,n.tdiv 8))=_;rw[Hh ar]
  rw[a_];exact this
 by_cases e:o=36
 .subst e;exact agK B v l n w h av bc
 by_cases e:o=37
 .subst e;exact agL B v l n w h av bc
 by_cases e:o=38
 .subst e;exact agM B v l n w h av bc
 by_cases e:o=39
 .subst e;exact agN B v l n w h av bc
 have aH:mo l ⟨o,n⟩=l:=by
  have:p' ⟨o,n⟩=none:=by
   unfold p';dsimp only;rw[aw (by omega),aw (by omega),aw (by omega),aw (by omega),aw (by omega),aw (by omega)]
  unfold mo;rw[this];rfl
 rw[aH];exact agR B v l o n w h ⟨by omega,by omega,by omega,by omega,by omega,by omega,by omega,by omega,by omega⟩
def o6.refl(v:ak)(w:ag):o6 v w v w:=⟨⟨rfl,rfl,rfl,bB _,λ_ _ _=>rfl⟩,.inl rfl⟩
def o6.ky{v:ak}{w w':ag}(h:Kept w w'):o6 v w v w':=⟨⟨h.os,h.tape,h.output,h.size,λb af _=>h.block b af⟩,.inl rfl⟩
def o6.trans{v v1 v2:ak}{w w1 w2:ag}(h:o6 v w v1 w1)(k:o6 v1 w1 v2 w2):o6 v w v2 w2:=by
 refine⟨⟨k.l4.os.trans h.l4.os,k.l4.tape.trans h.l4.tape,k.l4.output.trans h.l4.output,fN h.l4.size k.l4.size,λb af bU=> ?_⟩,?_⟩
 .refine (k.l4.block b (bG af h.l4.size) (λe=> ?_)).trans (h.l4.block b af bU);rcases h.own with aR|aR
  .exact bU (e.trans aR)
  .have:=aR b e.symm;omega
 .rcases k.own with ck|ck
  .rw[ck];exact h.own
  .exact .inr λg al=>fN h.l4.size (ck g al)
def o6.kept{v v1:ak}{w0 w w1:ag}(h:o6 v w v1 w1)(ai:Kept w0 w)(aK:∀g,v.ownBlock=some g->w0.heap.size<=g):Kept w0 w1:=
 ⟨h.l4.os.trans ai.os,h.l4.tape.trans ai.tape,h.l4.output.trans ai.output,fN ai.size h.l4.size,λb af=>(h.l4.block b (bG af ai.size) (λe=>by have:=aK b e.symm;omega)).trans (ai.block b af)⟩
def o6.eH{v v1:ak}{w w1:ag}{g t:aa}{cs:ho}(h:o6 v w v1 w1)(bc:aB w g t cs)(bU:v.ownBlock≠some g):aB w1 g t cs:=(h.l4.block g bc.lt (λe=>bU e.symm)).trans bc
def aaD{xs:List cw}{i:aa}{x:cw}(h:xs[i]?=some x)(l:List (J×J)):(xs.take (i+1)).foldl mo l=mo ((xs.take i).foldl mo l) x:=by
 rw[qZ,h,zA,Tm];rfl
def abR(xs:List cw)(l:List (J×J))(i:aa):((xs.take i).foldl mo l).length<=l.length+xs.length:=by
 have ab:=L9 (xs.take i) l;have ad:(xs.take i).length<=xs.length:=by rw[gT];omega
 omega
structure Df(B:aa)(v:ak)(w0 W:ag)(a:ak)(l:List (J×J))(w:ag):Prop where
 row:cb w B 127 hY 2 a l
 F5:o6 v W a w
 et:Kept w0 w
section
variable {B:aa} {v a b:ak} {w0 W w w':ag} {l l':List (J×J)}
def Df.step(h:Df B v w0 W a l w)(ai:Kept w w')(hw:w0.heap.size<=B){w2:ag}(al:cb w2 B 127 hY 2 b l')(aC:o6 a w' b w2):Df B v w0 W b l' w2:=
 ⟨al,h.F5.trans ((o6.ky ai).trans aC),aC.kept (h.et.trans ai) λg al=>fN hw (iF h.row g al).1⟩
end
def aaH(B:aa)(v cD:ak)(l:List (J×J))(r:br)(w0 w:ag)(h:cb w B 127 hY 2 v l)(ai:Kept w0 w)(hw:w0.heap.size<=B)(bc:B<=w.heap.size)(aJ:Ib w0 cD r)(av:l.length+(r.g.length+r.v.length)<=1000000)(sZ:∀x,(x∈r.g\/x∈r.v)->x.o=34->0<=x.n/\x.n<=9223372036854775807):bg 64 #[v,cD] w (qy B v (tL l r) w):=by
 obtain⟨sY,tr,rfl,aL,c6⟩:=aJ;obtain⟨gC,gc,rfl,al⟩:=aL.1.at_;obtain⟨gx,eT,rfl,aK⟩:=c6.1.at_;have eQ:=I al;have fE:=I aK;have H34:=I sZ;have dB:=I av;have n7:=I hw;obtain⟨R,aJ⟩:∃R,R=tL l r:=⟨_,rfl⟩;have aX:=I aJ;rw[<-aJ];obtain⟨oL,Rh⟩:∃n,n=r.g.length:=⟨_,rfl⟩;obtain⟨dR,XQ⟩:∃n,n=r.v.length:=⟨_,rfl⟩;have ar1:oL<=1000000:=by omega
 have asX:dR<=1000000:=by omega
 rw[<-Rh,<-XQ];have HE:=I Rh;have KZ:=I XQ;have aV:Kept w (w.alloc (.cells #[r.aM,r.bx,r.bJ,r.d_,r.cZ,r.cT,ae gC oL gc,ae gx dR eT,r.src] 138)):=(aG w).alloc _;have bo:=aB.new w 138 #[r.aM,r.bx,r.bJ,r.d_,r.cZ,r.cT,ae gC oL gc,ae gx dR eT,r.src];have bU:v.ownBlock≠some w.heap.size:=λe=>by have:=(iF h _ e).2;omega
 have Mq:Df B v w0 _ v l _:=⟨h.lk aV,o6.refl _ _,ai.trans aV⟩;have agl:=I (λ(a:ak)(wr:ag)(aT:Df B v w0 (w.alloc (.cells #[r.aM,r.bx,r.bJ,r.d_,r.cZ,r.cT,ae gC oL gc,ae gx dR eT,r.src] 138)) a R wr)=>(show qy B v R w (bL a) wr from⟨a,rfl,aT.row,(o6.ky aV).trans aT.F5⟩));obtain⟨A,c,rfl,-⟩:=cb.jx m' h;clear aL c6 al aK sZ av aJ Rh XQ hw h;go_enter func64,ntmps64
 go_upto_region 1 with fail
 generalize MB:w.alloc (.cells #[r.aM,r.bx,r.bJ,r.d_,r.cZ,r.cT,ae gC oL gc,ae gx dR eT,r.src] 138)=W at*;generalize w.heap.size=g0 at*;have hBW:B<=W.heap.size:=by have:=aV.size;have:=bo.lt;omega
 clear MB aV;obtain⟨dX,dM⟩:=bo.p;have TU:=I (λ(a:ak)(m:List (J×J))(w1:ag)(aT:Df B (ae A l c) w0 W a m w1)=>aT.F5.eH bo bU);clear bo bU;go_upto_region 2 with fail
 go_loopw [0,12] (λa y wr=>∃i:aa,y=ah i/\i<=oL/\Df B (ae A l c) w0 W a ((r.g.take i).foldl mo l) wr) (λ_ y _=>oL-(intOf y).toNat)
 case atStart=>exact⟨0,rfl,d' _,Mq⟩
 case round=>
  obtain⟨i,rfl,dG,a7⟩:=hrel;clear dX dM Mq;by_cases aN:i<oL
  .obtain⟨QD,go,rfl,Ck,uS⟩:=eQ.out (by have:=HE.out;omega);have kG:r.g[i]?=some (r.g[i]'(by have:=HE.out;omega)):=bn _;obtain⟨bX,bQ⟩:=uS i _ kG;have T:=aaD kG l;have L:=abR r.g l i;have Mf:=H34.out _ (.inl (fe kG));generalize r.g[i]'(by have:=HE.out;omega)=X at*;replace bX:=a7.et.aI Ck bX;replace bQ:=a7.et.aI Ck bQ;have aj5:=bG Ck a7.et.size;have db:(i:J)<oL:=by omega
   obtain⟨eS,aY,rfl,-⟩:=cb.jx m' a7.row;have hBr:B<=wr.heap.size:=by have:=a7.F5.l4.size;omega
   have cI:=I a7;have c8:=I T;have ct:=I (λw1(k:Kept wr w1)=>aaG B _ _ X w1 (a7.row.lk k) (by have:=dB.out;have:=HE.out;omega) (by have:=k.size;omega) Mf);unfold qy at ct;generalize ((r.g.take i).foldl mo l).length=m at*;clear a7 T Mf uS kG L;obtain⟨j3,iO⟩:=X;dsimp only at*;go_wp2_with (go_at_call 97;refine (ct _ ((aG _).aZ)).mono ?_;rintro e w1⟨b,rfl,fU,hd⟩;have hU:=I (cI.step ((aG _).aZ) n7 fU hd);clear fU hd)
   go_roundw
   case rel=>exact⟨i+1,by go_num,aN,by rw[c8];exact hU⟩
   case measure=>simp[intOf];omega
  .obtain rfl:i=oL:=by omega
   have db:¬((i:J)<i):=by omega
   rw[mH (by rw[<-HE];exact bB _)]at a7;have im:=TU.out _ _ _ a7;obtain⟨gK,bd⟩:=im.p;have HI:=I (L9 r.g l);have ke:=I a7;obtain⟨eS,aY,rfl,-⟩:=cb.jx m' a7.row;have q7:=I (show (r.v.take 0).foldl mo (r.g.foldl mo l)=r.g.foldl mo l from by rw[q0];rfl);have Bq:=I (show (r.v.take dR).foldl mo (r.g.foldl mo l)=R from by rw[aX,mH (by rw[<-KZ];exact bB _)];rfl);generalize hl0:r.g.foldl mo l=cR at*;clear a7 im TU aN dG eQ;go_upto_region 7 with fail
   clear gK bd;go_loopw [0,23] (λa y wr=>∃j:aa,y=ah j/\j<=dR/\Df B (ae A l c) w0 W a ((r.v.take j).foldl mo cR) wr) (λ_ y _=>dR-(intOf y).toNat)
   case atStart=>exact⟨0,rfl,d' _,by rw[q7];exact ke⟩
   case round=>
    obtain⟨j,rfl,Aw,a7⟩:=hrel;by_cases aN:j<dR
    .obtain⟨QD,go,rfl,Ck,uS⟩:=fE.out (by have:=KZ.out;omega);have kG:r.v[j]?=some (r.v[j]'(by have:=KZ.out;omega)):=bn _;obtain⟨bX,bQ⟩:=uS j _ kG;have T:=aaD kG cR;have L:=abR r.v cR j;have Mf:=H34.out _ (.inr (fe kG));generalize r.v[j]'(by have:=KZ.out;omega)=X at*;replace bX:=a7.et.aI Ck bX;replace bQ:=a7.et.aI Ck bQ;have aj5:=bG Ck a7.et.size;have db:(j:J)<dR:=by omega
     obtain⟨a2,a',rfl,-⟩:=cb.jx m' a7.row;have hBr:B<=wr.heap.size:=by have:=a7.F5.l4.size;omega
     have cI:=I a7;have c8:=I T;have ct:=I (λw1(k:Kept wr w1)=>aaG B _ _ X w1 (a7.row.lk k) (by have:=dB.out;have:=HI.out;have:=HE.out;have:=KZ.out;omega) (by have:=k.size;omega) Mf);unfold qy at ct;generalize ((r.v.take j).foldl mo cR).length=m at*;clear a7 T Mf uS kG L;obtain⟨j3,iO⟩:=X;dsimp only at*;go_wp2_with (go_at_call 97;refine (ct _ ((aG _).aZ)).mono ?_;rintro e w1⟨b,rfl,fU,hd⟩;have hU:=I (cI.step ((aG _).aZ) n7 fU hd);clear fU hd)
     go_roundw
     case rel=>exact⟨j+1,by go_num,aN,by rw[c8];exact hU⟩
     case measure=>simp[intOf];omega
    .obtain rfl:j=dR:=by omega
     have db:¬((j:J)<j):=by omega
     rw[Bq]at a7;have cI:=I a7;clear a7;go_wp2_with fail
     go_ret;exact agl _ _ cI
section
variable {X:fD} {v v':ak} {ns:List cl} {w w':ag} {m d:J}
def fg.set(h:fg X v ns w){p:Addr}(u:ak)(ar:X.w0.heap.size<=p.block)(ab:p.block≠X.P)(ad:p.block≠X.M)(ao:v.ownBlock≠some p.block):fg X v ns (w.setCell p u):=by
 obtain⟨hI,au,bt,bF⟩:=h.mp;refine⟨h.et.setCell ar u,h.eH.far (λe=>ab e.symm) u,rJ (ok:=λb=>b≠p.block) h.row (λb _ bU=>jQ w p u b bU) (λb af e=>ao (e▸af)),⟨hI,au,bt,bF.kept (jQ w p u X.M (λe=>ad e.symm))⟩,?_⟩;have:=h.JC;simpa using this
def lU.set{P M:aa}(h:lU P M v w v' w'){p:Addr}(u:ak)(ar:w<=p.block):lU P M v w v' (w'.setCell p u):=
 ⟨h.os,h.tape,h.output,by have:=h.size;simpa using this,λi aD a b c=>(jQ w' p u i (by omega)).trans (h.block i aD a b c),h.own⟩
def gv.vY(bk:gv X):kd X.l X.i X.s X.c X.d0:=kd.of bk.at_ bk.dw
def gv.own(bk:gv X)(al:X.G (-1) d):eD X.l (X.i:J) X.c d=iE X.l X.s X.c (-1) d/\(∃(v:bC)(q:aa),iE X.l X.s X.c (-1) d=⟨v,q,0,0,0,0⟩)/\0<=d/\d<13:=by
 have a1:=bk.vY;rcases al with⟨-,aE⟩|⟨ar,-⟩
 .have aC:=aE.rg a1.rg;obtain⟨v,q,r,aQ,-⟩:=a1.own aE;have DV:=(a1.ok.sc.small a1.mem).2;exact⟨afk bk.at_ (ahg bk.at_ bk.arg aC),⟨v,q,aQ⟩,aC.1,by omega⟩
 .omega
def gv.t'(bk:gv X)(hm:0<=m)(al:X.G m d):∃j:aa,m=j/\j<X.c.mem.length/\eD X.l X.s.ms (th X.c m) d=iE X.l X.s X.c m d/\(∃(v:bC)(q:aa),iE X.l X.s X.c m d=⟨v,q,0,0,0,0⟩)/\0<=d/\d<13/\0<=X.s.ms/\X.l.sc[X.s.ms.toNat]?=some (bl X.l X.s):=by
 have a1:=bk.vY;rcases al with⟨e,-⟩|⟨ar,ab,ad,ao,aR⟩
 .omega
 .have xv:=bn (l:=X.c.mem) (i:=m.toNat) (by omega);obtain⟨v,q,r,aQ,-⟩:=a1.t' ar xv ad ao aR;obtain⟨sh,dK,-⟩:=a1.JF (by omega);have DV:=(a1.ok.sc.C0 a1.mem).2;obtain⟨-,-,-,-,-,-,bD⟩:=PR bk.at_ bk.arg;have QY:=bD m.toNat d (by omega) ad ao;rw[show ((m.toNat:aa):J)=m by omega]at QY;refine⟨m.toNat,by omega,by omega,?_,⟨v,q,aQ⟩,ad,by omega,sh,dK⟩;rw[L6 QY,dK,b9];unfold iE;rw[aw (by omega)]
def gv.G3(bk:gv X)(al:X.G m d): -1<=m/\m<9/\0<=d/\d<13:=by
 have eI:=bk.m8;by_cases hm:0<=m
 .obtain⟨j,rfl,ay,-,-,ar,ab,-⟩:=bk.t' hm al;exact⟨by omega,by omega,ar,ab⟩
 .have e:m= -1:=by
   rcases al with⟨e,-⟩|⟨ar,-⟩
   .exact e
   .omega
  subst e;obtain⟨-,-,ar,ab⟩:=bk.own al;exact⟨by omega,by omega,ar,ab⟩
def gv.S3(bk:gv X):X.U.length<=108:=by
 have a1:=bk.vY;exact aqp (a1.ok.sc.small a1.mem).2 (a1.ok.sc.C0 a1.mem).2 bk.m8
def gv.RX(bk:gv X)(al:X.G m d):(m,d)∈X.U:=aqq bk.vY al
def gv.form(bk:gv X):∃c5 dS eW cV dd cX hM fJ eh fR ff ih,X.b.E=ae c5 dS eW/\X.b.T=ae cV dd cX/\X.b.S=ae hM X.l.sc fJ/\X.b.mj=ae eh X.c.ins fR/\X.b.M=ae ff X.c.mem ih:=by
 obtain⟨dw,cM,cH,e,ar,ab,ad⟩:=bk.law;simp only[x4,x7,qk,kN]at e;obtain⟨aQ,a_,cv⟩:=e;obtain⟨c5,eW,rfl,-⟩:=ar;obtain⟨cV,cX,rfl,-⟩:=ab;obtain⟨hM,fJ,rfl,-⟩:=ad;obtain⟨eh,fR,h_,-⟩:=bk.ins;obtain⟨ff,ih,ko,-⟩:=bk.mem;exact⟨_,_,_,_,_,_,_,_,_,_,_,_,aQ,a_,cv,h_,ko⟩
end
def pW(X:fD)(m d:J)(v:ak)(ns:List cl)(w:ag)(e:Ending)(w':ag):Prop:=e=bL (X.fd m d)/\fg X v ns w'/\lU X.P X.M v w v w'
def pW.mk{X:fD}{m d:J}{v:ak}{ns:List cl}{w w1:ag}{g:aa}{a b c f:ak}(h:fg X v ns w1)(aq:lU X.P X.M v w v w1)(bk:gv X)(ar:fg X v ns w)(al:w<=g){u:ak}(hu:u=X.fd m d):
  pW X m d v ns w (bL u) ((((w1.setCell (g,0) a).setCell (g,1) b).setCell (g,2) c).setCell (g,3) f):=by
 have aO:=ar.et.size;have av:=ar.eH.lt;obtain⟨hI,-,-,nm,ck,-⟩:=ar.mp;have hm:=ck.lt;have aK:v.ownBlock≠some g:=λe=>by have:=(iF ar.row g e).2;omega
 refine⟨by rw[hu],((((h.set _ ?_ ?_ ?_ ?_).set _ ?_ ?_ ?_ ?_).set _ ?_ ?_ ?_ ?_).set _ ?_ ?_ ?_ ?_),(((aq.set _ al).set _ al).set _ al).set _ al⟩
 all_goals first|exact aK|(dsimp only;omega)
def ai7(X:fD)(bk:gv X)(v:ak)(ns:List cl)(m d:J)(w:ag)(h:fg X v ns w)(al:X.G m d){hI:List (J×J)}(hF:Ff X.fd 78 X.M hI w)(ai:(m,d)∈hI):bg 35 #[.pointer (some (X.P,0)),gZ m d] w (pW X m d v ns w):=by
 obtain⟨hh,iC,kY,sr⟩:=bk.G3 al;obtain⟨rE,fu⟩:=SU (m:=m) (d:=d) (by omega) (by omega) (by omega) (by omega);obtain⟨f,ck,cy⟩:=hF;have aK:=cy m d;rw[aP ai]at aK;have vN:=I (λw1(k:Kept w w1)g(al:w.heap.size<=g)a b c f u(hu:u=X.fd m d)=>pW.mk (m:=m) (d:=d) (g:=g) (a:=a) (b:=b) (c:=c) (f:=f) (h.keep k) (lU.ky k) bk h al hu);unfold gZ at fu aK⊢;go_enter func35,ntmps35
 go_upto_region 1 with fail
 generalize aL:(w.alloc _).alloc _=W at*;obtain⟨aV,cP,fH⟩:=Kept.a_ aL;clear aL;have B:=h.eH.kept aV;have bN:=ck.kept aV;have tk:=B.cell 8;have iu:=B.lt;simp only[oI,hL,iP,jd]at tk;unfold fD.fd DS at aK vN;generalize iE X.l X.s X.c m d=R at*;obtain⟨⟨cS,eo,di⟩,cf,rc,atU,rd,atV⟩:=R;dsimp only at aK vN;have aC:=(bN.block (w':=W.drew) rfl).look true Tryz.vr Tryz.CY (Tryz.F3 W.drew) fu;have a6:=bN.look true Tryz.vr Tryz.CY (Tryz.F3 W) fu;have iL:=((bN.kept ((aG W).alloc (.cells #[(),(),(),()] 120))).block (w':=(W.alloc (.cells #[(),(),(),()] 120)).drew) rfl).look true Tryz.vr Tryz.CY (Tryz.F3 _) fu;rw[aK]at a6 aC iL;simp only[k3,b9,ZZ]at a6 aC iL;clear B bN aK cy ck;generalize X.P=P at*;generalize X.M=M at*;obtain⟨bu,dW⟩:=cP.p;go_upto_region 2 with fail
 go_region
 all_goals
  clear a6 aC iL tk iu;have mJ:Kept W (W.alloc (.cells #[cS,eo,di,cf] 120)).drew:=((aG W).alloc _).drew;have hq:=(aB.new W 120 #[cS,eo,di,cf]).drew;have ee:=fH.kept mJ;have cp:=I (aV.trans mJ);generalize (W.alloc (.cells #[cS,eo,di,cf] 120)).drew=V at*;obtain⟨b_,gA⟩:=hq.p;have cE:=I ((((ee.ba 0 cS).ba 1 eo).ba 2 di).ba 3 cf).cell;obtain⟨b4,gz,f4⟩:=ee.q;clear ee hq bu dW cP fH;go_wp2_with fail
  have e5:=cE.out;exact bI (v:=aF #[cS,eo,di,cf]) (by simp[results,results35,go_sem,e5]) rfl (vN _ cp _ (pG _) _ _ _ _ _ rfl)
def ai8(X:fD)(bk:gv X)(v:ak)(ns:List cl)(d:J)(w:ag)(h:fg X v ns w)(al:X.G (-1) d){hI:List (J×J)}(iA:hI.Nodup)(qM:∀x∈hI,x∈X.U)(hF:Ff X.fd 78 X.M hI w)(ai:((-1),d)∉hI):bg 35 #[.pointer (some (X.P,0)),gZ (-1) d] w (pW X (-1) d v ns w):=by
 obtain⟨hh,iC,kY,sr⟩:=bk.G3 al;obtain⟨rE,fu⟩:=SU (m:=(-1)) (d:=d) (by omega) (by omega) (by omega) (by omega);obtain⟨he,⟨⟨⟨cS,eo,di⟩,q,aK⟩,-,-⟩⟩:=bk.own al;have y4:X.fd (-1) d=aF #[cS,eo,di,q]:=by unfold fD.fd DS;rw[aK]
 obtain⟨c5,dS,eW,cV,dd,cX,hM,fJ,eh,fR,ff,ih,L7,L8,xn,QA,yS⟩:=bk.form;obtain⟨A,c,XP⟩:=h.form;subst XP;have l8:hI.length<maxLen:=by have:=YE hI X.U iA qM;have:=bk.S3;unfold maxLen;omega
 obtain⟨f,ck,cy⟩:=hF;have Ch:=cy (-1) d;rw[aw ai]at Ch;have vN:Hid (∀w1 U,Kept w w1->lY 78 X.M (hI.length+1) (CQ f (gZ (-1) d) (X.fd (-1) d)) U->w1.grownBy U (some X.M)->∀g,w.heap.size<=g->∀a b fF nm,pW X (-1) d (ae A ns c) ns w (bL (X.fd (-1) d)) ((((U.setCell ⟨g,0,none⟩ a).setCell ⟨g,1,none⟩ b).setCell ⟨g,2,none⟩ fF).setCell ⟨g,3,none⟩ nm)):=I (λw1 U k bd a8 g Rg a b fF nm=>by
  have af:=fg.found (h.keep k) bk (bk.RX al) iA qM cy ai bd a8;exact pW.mk (m:=(-1)) (d:=d) (g:=g) (a:=a) (b:=b) (c:=fF) (f:=nm) af.1 ((lU.ky k).trans af.2) bk h Rg rfl)
 have ajH:=ck.lt;have B:=h.eH;unfold oI at B;rw[L7,L8,xn,QA,yS,bk.sc,bk.dt]at B;have F7:=λw1(k:Kept w w1)=>F2 _ _ _ X.l (X.i:J) d X.c w1 ((L7▸L8▸xn▸bk.law:h1 X.w0 (aF #[ae c5 dS eW,ae cV dd cX,ae hM X.l.sc fJ]) X.l).kept (h.et.trans k)) ((QA▸bk.ins:ft X.w0 (ae eh X.c.ins fR) X.c.ins).kept (h.et.trans k)) ((yS▸bk.mem:kh X.w0 (ae ff X.c.mem ih) X.c.mem).kept (h.et.trans k)) bk.auv (bk.mon.kept (h.et.trans k));rw[he,aK]at F7;have h0:=I F7;unfold BW at h0;dsimp only at h0;unfold gZ at fu Ch vN⊢;rw[y4]at vN;clear F7 he aK y4 ai al;go_enter func35,ntmps35
 go_upto_region 1 with fail
 generalize aL:(w.alloc _).alloc _=W at*;obtain⟨aV,cP,fH⟩:=Kept.a_ aL;clear aL;have B:=B.kept aV;have bN:=ck.kept aV;have tk:=B.cell 8;have iu:=B.lt;simp only[hL,iP,jd]at tk;have iL:=((bN.kept ((aG W).alloc (.cells #[(),(),(),()] 120))).block (w':=(W.alloc (.cells #[(),(),(),()] 120)).drew) rfl).look true Tryz.vr Tryz.CY (Tryz.F3 _) fu;have aC:=(bN.block (w':=W.drew) rfl).look true Tryz.vr Tryz.CY (Tryz.F3 W.drew) fu;rw[Ch]at iL aC;simp only[k3,Tn,Ox]at iL aC;have KG:=I (λw1(k:Kept W w1)=>ck.kept (aV.trans k));have hU:=I (λw1(k:Kept W w1)=>bb (B.kept k) (bb (cP.kept k) (fH.kept k)));have e8:=I aV;generalize X.P=P at*;generalize X.M=M at*;generalize X.l.sc.length=fO at*;generalize X.c.ins.length=cC at*;generalize p2:X.c.mem.length=eE at*;obtain⟨bu,dW⟩:=cP.p;clear cP fH B bN ck cy Ch aV;go_cut [5,6] (λx y cj=>x= .pointer (some (W,0))/\y=bR false/\cj=(W.alloc (.cells #[(),(),(),()] 120)).drew)
 case first=>
  go_region
  all_goals
   go_wp2_with fail
   go_meet;exact⟨rfl,rfl,rfl⟩
 case rest=>
  obtain⟨rfl,rfl,c6⟩:=hcut;generalize wc=V at*;clear aC iL;have mJ:Kept W V:=by rw[c6];exact ((aG W).alloc _).drew
  have hg5:=mJ.size;have hv5:W<V.heap.size:=by rw[c6];simp
  clear bu dW tk iu c6;obtain⟨b,lD,jV⟩:=hU.out _ mJ;obtain⟨dX,iu⟩:=b.p;obtain⟨bu,dW⟩:=lD.p;clear b lD jV;go_upto_region 4 with fail
  go_cut [7,8] (λx y cj=>x=ah (X.i:J)/\y= .pointer (some (V,0))/\cj=(V.alloc (.cells #[X.c.d,ae eh cC fR,ae ff eE ih] 30)).drew)
  case first=>
   go_region
   all_goals
    go_wp2_with fail
    go_meet;exact⟨rfl,rfl,rfl⟩
  case rest=>
   obtain⟨rfl,rfl,c6⟩:=hcut;generalize wc=hs at*;have la:Kept V hs:=by rw[c6];exact ((aG V).alloc _).drew
   have ga:aB hs V 30 #[X.c.d,ae eh cC fR,ae ff eE ih]:=by rw[c6];exact (aB.new _ _ _).drew
   clear dX iu bu dW c6;have qu:=mJ.trans la;have u':=la.size;obtain⟨b,lD,jV⟩:=hU.out _ qu;obtain⟨dX,iu⟩:=b.p;obtain⟨bu,dW⟩:=lD.p;obtain⟨hV,mB⟩:=ga.p;go_upto_region 8 with fail
   have eF:=I (show∀c_,Kept hs c_->(Kept hs c_/\aU c_ (P,1)=some (ae c5 dS eW)/\aU c_ (P,2)=some (ae cV dd cX)/\aU c_ (P,3)=some (ae hM fO fJ)/\aU c_ (V,0)=some (ah X.c.d)/\aU c_ (V,1)=some (ae eh cC fR)/\aU c_ (V,2)=some (ae ff eE ih)/\aU c_ (w,1)=some (ah d))from λc_ h=>⟨h,(b.kept h).cell 1,(b.kept h).cell 2,(b.kept h).cell 3,(ga.kept h).cell 0,(ga.kept h).cell 1,(ga.kept h).cell 2,(lD.kept h).cell 1⟩);have gi:=I (e8.trans qu);clear b lD jV ga mJ la dX bu hV;obtain⟨-,dM,dQ,fP,gK,bd,a8,s1⟩:=eF.out hs (aG _);go_cut [9,10,11] (λx y z cj=>∃(g9 g11:aa),x= .pointer (some (g9,0))/\y=ah (q:J)/\z= .pointer (some (g11,0))/\aB cj g9 34 #[cS,eo,di]/\aB cj g11 37 #[(),(),(),()]/\Kept hs cj)
   case first=>
    go_region_held3 (λc_=>Kept hs c_/\aU c_ (P,1)=some (ae c5 dS eW)/\aU c_ (P,2)=some (ae cV dd cX)/\aU c_ (P,3)=some (ae hM fO fJ)/\aU c_ (V,0)=some (ah X.c.d)/\aU c_ (V,1)=some (ae eh cC fR)/\aU c_ (V,2)=some (ae ff eE ih)/\aU c_ (w,1)=some (ah d))
     ((refine eF _ ?_;(with_reducible repeat (first|exact .refl _|assumption|refine .drew ?_|refine .alloc ?_ _|refine .setCell ?_ (by (try simp only)<;>(try simp)<;>omega) _|refine .trans ?_ ‹Kept _ _›))))
     ((go_at_call 6;refine (h0 _ (gi.trans ?_)).mono ?_;(·(with_reducible first|exact (aG _).drew|exact (aG _).aZ.drew|exact (aG _).aZ.aZ.drew));rintro cv ch⟨eS,a2,a3,rfl,Ml,bF⟩;obtain⟨rfl,rfl,rfl⟩:=Ml.1 rfl;clear Ml;have HS3:=I bF.size;have p6:=bF.size;(try simp at p6);(try (have a7:=aB.kept (aB.drew (aB.new hs 34 #[(),(),()])) bF;have Wf:=a7.cell;have B3:=a7.frozen;have QG:=a7.lt));(try (have bc:=aB.kept (aB.drew (aB.new hs 37 #[(),(),(),()])) bF;have od:=bc.cell;have im:=bc.frozen;have rp:=bc.lt));(try (have hC:=aB.kept (aB.drew ((aB.new hs 34 #[(),(),()]).alloc (.cells #[(),(),(),()] 37))) bF;have mO:=hC.cell;have qD:=hC.frozen;have Wl:=hC.lt));(try (have cY:=aB.kept (aB.drew (xi (W:=hs.alloc (.cells #[(),(),()] 34)) (g:=hs.heap.size+1) (T:=37) (cs:=#[(),(),(),()]) (by simp))) bF;have yT:=cY.cell;have B6:=cY.frozen;have QJ:=cY.lt));(try (have a1:=aB.kept (aB.drew ((aB.new hs 37 #[(),(),(),()]).alloc (.cells #[(),(),()] 34))) bF;have IW:=a1.cell;have hE2:=a1.frozen;have hE3:=a1.lt));(try (have hF:=aB.kept (aB.drew (xi (W:=hs.alloc (.cells #[(),(),(),()] 37)) (g:=hs.heap.size+1) (T:=34) (cs:=#[(),(),()]) (by simp))) bF;have tS:=hF.cell;have QL:=hF.frozen;have IZ:=hF.lt));have w7:Kept hs ch:=(by (with_reducible first|exact (aG _).drew.trans bF|exact (aG _).aZ.drew.trans bF|exact (aG _).aZ.aZ.drew.trans bF))))
    all_goals
     rename_i hHeld;clear hHeld;go_wp2_with fail
     go_meet;exact⟨_,_,rfl,rfl,rfl,by (with_reducible repeat (first|exact xi (by simp)|refine PU ?_ (by omega) _ _ _ _|refine ee (a:=ah 0) (b:=ah 0) (c:=ah 0) (d:=ah 0) ?_ _ _ _ _|refine Ae ?_ (by omega) _ _ _|refine j8 (a:=ah 0) (b:=ah 0) (c:=ah 0) ?_ _ _ _|refine aB.alloc ?_ _|refine aB.drew ?_|refine aB.kept ?_ bF)),by (with_reducible repeat (first|exact xi (by simp)|refine PU ?_ (by omega) _ _ _ _|refine ee (a:=ah 0) (b:=ah 0) (c:=ah 0) (d:=ah 0) ?_ _ _ _ _|refine Ae ?_ (by omega) _ _ _|refine j8 (a:=ah 0) (b:=ah 0) (c:=ah 0) ?_ _ _ _|refine aB.alloc ?_ _|refine aB.drew ?_|refine aB.kept ?_ bF)),by (with_reducible repeat (first|exact .refl _|assumption|refine .drew ?_|refine .alloc ?_ _|refine .setCell ?_ (by (try simp only)<;>(try simp)<;>omega) _|refine .trans ?_ ‹Kept _ _›))⟩
   case rest=>
    obtain⟨g9,g11,rfl,rfl,rfl,iw,x',pb⟩:=hcut;generalize wc=mn at*;obtain⟨b,lD,jV⟩:=hU.out _ (qu.trans pb);obtain⟨dX,iu⟩:=b.p;obtain⟨ri,xG⟩:=iw.p;obtain⟨DL,AK⟩:=x'.p;have hw2:w.heap.size+1<mn:=jV.lt;clear b lD jV iw x' eF h0;go_upto_region 12 with fail
    generalize aL:mn.alloc _=fQ at*;obtain⟨K5,Bc⟩:=Kept.aQ aL;clear aL;generalize aj3:mn.heap.size=g12 at*;have Fx:=qu.trans (pb.trans K5);obtain⟨b,lD,jV⟩:=hU.out _ Fx;obtain⟨U,dH,bd,a8⟩:=((KG _ Fx).block (w':=fQ.drew) rfl).store Tryz.vr Tryz.CY l8 fu (aF #[cS,eo,di,q]);have Uh:=I (vN fQ.drew U (e8.trans Fx).drew bd a8 (w.heap.size+1) (pG _));have TR:Hid (aB U g12 120 #[cS,eo,di,q]):=I ((a8.block g12 Bc.lt (λe=>by have:=cJ e;omega)).trans Bc);have j4:Hid (aB U (w.heap.size+1) 120 #[(),(),(),()]):=I ((a8.block (w.heap.size+1) jV.lt (λe=>by have:=cJ e;omega)).trans jV);have tk:=b.cell 8;simp only[hL,iP,jd]at tk;have iu:=b.lt;obtain⟨bu,dW⟩:=lD.p;obtain⟨LI,Nz⟩:=Bc.p;clear dX ri xG DL AK b lD jV Bc bd a8 K5 pb;go_upto_region 13 with fail
    go_region
    all_goals
     clear dH tk bu LI Nz dW iu;have Ly:=TR.out;have ee:=j4.out;obtain⟨LI,Nz⟩:=Ly.p;have cE:=I ((((ee.ba 0 cS).ba 1 eo).ba 2 di).ba 3 q).cell;obtain⟨b4,gz,f4⟩:=ee.q;clear ee Ly;go_wp2_with fail
     have e5:=cE.out;exact bI (v:=aF #[cS,eo,di,q]) (by simp[results,results35,go_sem,e5]) rfl (Uh _ _ _ _)
def ai6(X:fD)(bk:gv X)(v:ak)(ns:List cl)(m d:J)(hm:0<=m)(w:ag)(h:fg X v ns w)(al:X.G m d){hI:List (J×J)}(iA:hI.Nodup)(qM:∀x∈hI,x∈X.U)(hF:Ff X.fd 78 X.M hI w)(ai:(m,d)∉hI):bg 35 #[.pointer (some (X.P,0)),gZ m d] w (pW X m d v ns w):=by
 obtain⟨hh,iC,kY,sr⟩:=bk.G3 al;obtain⟨rE,fu⟩:=SU (m:=m) (d:=d) (by omega) (by omega) (by omega) (by omega);obtain⟨j,rfl,ay,he,⟨⟨cS,eo,di⟩,q,aK⟩,-,-,sh,dK⟩:=bk.t' hm al;have y4:X.fd (j:J) d=aF #[cS,eo,di,q]:=by unfold fD.fd DS;rw[aK]
 obtain⟨c5,dS,eW,cV,dd,cX,hM,fJ,eh,fR,ff,ih,L7,L8,xn,QA,yS⟩:=bk.form;obtain⟨A,c,XP⟩:=h.form;subst XP;have l8:hI.length<maxLen:=by have:=YE hI X.U iA qM;have:=bk.S3;unfold maxLen;omega
 obtain⟨f,ck,cy⟩:=hF;have Ch:=cy (j:J) d;rw[aw ai]at Ch;have vN:Hid (∀w1 U,Kept w w1->lY 78 X.M (hI.length+1) (CQ f (gZ (j:J) d) (X.fd (j:J) d)) U->w1.grownBy U (some X.M)->∀g,w.heap.size<=g->∀a b fF nm,pW X (j:J) d (ae A ns c) ns w (bL (X.fd (j:J) d)) ((((U.setCell ⟨g,0,none⟩ a).setCell ⟨g,1,none⟩ b).setCell ⟨g,2,none⟩ fF).setCell ⟨g,3,none⟩ nm)):=I (λw1 U k bd a8 g Rg a b fF nm=>by
  have af:=fg.found (h.keep k) bk (bk.RX al) iA qM cy ai bd a8;exact pW.mk (m:=(j:J)) (d:=d) (g:=g) (a:=a) (b:=b) (c:=fF) (f:=nm) af.1 ((lU.ky k).trans af.2) bk h Rg rfl)
 have ajH:=ck.lt;have B:=h.eH;unfold oI at B;rw[L7,L8,xn,QA,yS,bk.sc,bk.dt]at B;obtain⟨H2,pk⟩:∃L,X.c.mem[j]?=some L:=⟨_,bn ay⟩;obtain⟨AM',cM',VL,-,RR⟩:=bk.mem.at_;rw[yS]at VL;simp only[i_,tu]at VL;obtain⟨rfl,rfl⟩:=VL;obtain⟨cn,xI,rfl,Cm,Ax⟩:=RR (by omega);obtain⟨akb,Kk,LJ,d0,ajG⟩:=Ax j _ pk;have s6:(th X.c (j:J)).ins=H2:=by unfold th;rw[c7,pk,b9]
 have hIj:ft X.w0 (ae Kk H2 LJ) (th X.c (j:J)).ins:=by rw[s6];exact ajG
 have qL:(th X.c (j:J)).ins.length<=9223372036854775807:=by rw[s6];exact akb
 have Np:=h.et.size;have acr:=bG Cm Np;obtain⟨ev',EU,sv',atE,-,-,nL⟩:=bk.law;simp only[x4,x7,qk,kN]at atE;obtain⟨-,-,rfl⟩:=atE;obtain⟨AS',cS',VM,-,-,wo⟩:=nL;rw[xn]at VM;simp only[i_,tu]at VM;obtain⟨rfl,rfl⟩:=VM;have fB:=(b2 bk.at_).1;obtain⟨kL,qb,rfl,jX,ak0⟩:=wo (by omega);obtain⟨-,⟨s1,-⟩,-⟩:=ak0 X.i _ bk.at_;have XC:=bG jX Np;have O7:=I (λw1(k:Kept w w1)=>bb ((h.et.trans k).aI Cm d0) ((h.et.trans k).aI jX s1));have F7:=λw1(k:Kept w w1)=>F2 _ _ bf X.l X.s.ms d (th X.c (j:J)) w1 ((L7▸L8▸xn▸bk.law:h1 X.w0 (aF #[ae c5 dS eW,ae cV dd cX,ae (some (kL,qb)) X.l.sc fJ]) X.l).kept (h.et.trans k)) (hIj.kept (h.et.trans k)) ⟨none,0,rfl,d' _,λh=>absurd h (by simp[th])⟩ qL (bk.mon.kept (h.et.trans k));rw[he,aK]at F7;have h0:=I F7;unfold BW at h0;dsimp only at h0;unfold gZ at fu Ch vN⊢;rw[y4]at vN;clear F7 he aK y4 ai al;go_enter func35,ntmps35
 go_upto_region 1 with fail
 generalize aL:(w.alloc _).alloc _=W at*;obtain⟨aV,cP,fH⟩:=Kept.a_ aL;clear aL;have B:=B.kept aV;have bN:=ck.kept aV;have tk:=B.cell 8;have iu:=B.lt;simp only[hL,iP,jd]at tk;have iL:=((bN.kept ((aG W).alloc (.cells #[(),(),(),()] 120))).block (w':=(W.alloc (.cells #[(),(),(),()] 120)).drew) rfl).look true Tryz.vr Tryz.CY (Tryz.F3 _) fu;have aC:=(bN.block (w':=W.drew) rfl).look true Tryz.vr Tryz.CY (Tryz.F3 W.drew) fu;rw[Ch]at iL aC;simp only[k3,Tn,Ox]at iL aC;have KG:=I (λw1(k:Kept W w1)=>ck.kept (aV.trans k));have hU:=I (λw1(k:Kept W w1)=>bb (B.kept k) (bb (cP.kept k) (fH.kept k)));have e8:=I aV;generalize X.P=P at*;generalize X.M=M at*;generalize X.l.sc.length=fO at*;generalize X.c.ins.length=cC at*;generalize p2:X.c.mem.length=eE at*;obtain⟨bu,dW⟩:=cP.p;clear cP fH B bN ck cy Ch aV;go_cut [5,6] (λx y cj=>x= .pointer (some (W,0))/\y=bR false/\cj=(W.alloc (.cells #[(),(),(),()] 120)).drew)
 case first=>
  go_region
  all_goals
   go_wp2_with fail
   go_meet;exact⟨rfl,rfl,rfl⟩
 case rest=>
  obtain⟨rfl,rfl,c6⟩:=hcut;generalize wc=V at*;clear aC iL;have mJ:Kept W V:=by rw[c6];exact ((aG W).alloc _).drew
  have hg5:=mJ.size;have hv5:W<V.heap.size:=by rw[c6];simp
  clear bu dW tk iu c6;obtain⟨b,lD,jV⟩:=hU.out _ mJ;obtain⟨dX,iu⟩:=b.p;obtain⟨bu,dW⟩:=lD.p;clear b lD jV;go_upto_region 4 with fail
  go_cut [7,8] (λx y cj=>x=ah (X.i:J)/\y= .pointer (some (V,0))/\cj=(V.alloc (.cells #[X.c.d,ae eh cC fR,ae (some (cn,xI)) eE ih] 30)).drew)
  case first=>
   go_region
   all_goals
    go_wp2_with fail
    go_meet;exact⟨rfl,rfl,rfl⟩
  case rest=>
   obtain⟨rfl,rfl,c6⟩:=hcut;generalize wc=hs at*;have la:Kept V hs:=by rw[c6];exact ((aG V).alloc _).drew
   have ga:aB hs V 30 #[X.c.d,ae eh cC fR,ae (some (cn,xI)) eE ih]:=by rw[c6];exact (aB.new _ _ _).drew
   clear dX iu bu dW c6;have qu:=mJ.trans la;have u':=la.size;obtain⟨b,lD,jV⟩:=hU.out _ qu;obtain⟨dX,iu⟩:=b.p;obtain⟨bu,dW⟩:=lD.p;obtain⟨hV,mB,f8⟩:=ga.q;obtain⟨bQ,cx⟩:=O7.out hs (e8.trans qu);have Xe:=bG acr (e8.trans qu).size;have akZ:=bG XC (e8.trans qu).size;have db:(X.i:J)<fO:=by omega
   have kT:(j:J)<eE:=by omega
   go_upto_region 6 with fail
   go_cut [7] (λx cj=>x=ah X.s.ms/\Kept hs cj)
   case first=>
    go_region
    all_goals
     go_wp2_with fail
     go_meet;exact⟨rfl,(aG _).drew⟩
   obtain⟨rfl,oe⟩:=hcut;have ga:=ga.kept oe;have la:=la.trans oe;have u':=la.size;have qu:=mJ.trans la;generalize wc=hs at*;clear dX iu bu dW hV mB f8 bQ cx Xe akZ oe b lD jV;obtain⟨b,lD,jV⟩:=hU.out _ qu;obtain⟨dX,iu⟩:=b.p;obtain⟨bu,dW⟩:=lD.p;obtain⟨hV,mB,f8⟩:=ga.q;obtain⟨bQ,cx⟩:=O7.out _ (e8.trans qu);have Xe:=bG acr (e8.trans qu).size;go_upto_region 7 with fail
   go_cut [61] (λx cj=>x=aF #[X.c.d,ae Kk H2 LJ,bf]/\Kept V cj/\aB cj V 30 #[X.c.d,ae Kk H2 LJ,bf])
   case first=>
    go_region
    go_wp2_with fail
    go_meet;exact⟨rfl,(((la.setCell (p:=⟨V.heap.size,0,none⟩) (bB _) _).setCell (p:=⟨V.heap.size,1,none⟩) (bB _) _).setCell (p:=⟨V.heap.size,2,none⟩) (bB _) _).drew,(j8 ga _ _ _).drew⟩
   clear dX iu bu dW hV mB f8 bQ cx Xe b lD jV ga la u' qu;obtain⟨rfl,la,ga⟩:=hcut;generalize wc=hs at*;have u':=la.size;have qu:=mJ.trans la;obtain⟨b,lD,jV⟩:=hU.out _ qu;obtain⟨dX,iu⟩:=b.p;obtain⟨bu,dW⟩:=lD.p;obtain⟨hV,mB⟩:=ga.p;go_upto_region 8 with fail
   have eF:=I (show∀c_,Kept hs c_->(Kept hs c_/\aU c_ (P,1)=some (ae c5 dS eW)/\aU c_ (P,2)=some (ae cV dd cX)/\aU c_ (P,3)=some (ae (some (kL,qb)) fO fJ)/\aU c_ (V,0)=some (ah X.c.d)/\aU c_ (V,1)=some (ae Kk H2 LJ)/\aU c_ (V,2)=some (ae none 0 0)/\aU c_ (w,1)=some (ah d))from λc_ h=>⟨h,(b.kept h).cell 1,(b.kept h).cell 2,(b.kept h).cell 3,(ga.kept h).cell 0,(ga.kept h).cell 1,(ga.kept h).cell 2,(lD.kept h).cell 1⟩);have gi:=I (e8.trans qu);clear b lD jV ga mJ la dX bu hV;obtain⟨-,dM,dQ,fP,gK,bd,a8,s1⟩:=eF.out hs (aG _);go_cut [9,10,11] (λx y z cj=>∃(g9 g11:aa),x= .pointer (some (g9,0))/\y=ah (q:J)/\z= .pointer (some (g11,0))/\aB cj g9 34 #[cS,eo,di]/\aB cj g11 37 #[(),(),(),()]/\Kept hs cj)
   case first=>
    go_region_held3 (λc_=>Kept hs c_/\aU c_ (P,1)=some (ae c5 dS eW)/\aU c_ (P,2)=some (ae cV dd cX)/\aU c_ (P,3)=some (ae (some (kL,qb)) fO fJ)/\aU c_ (V,0)=some (ah X.c.d)/\aU c_ (V,1)=some (ae Kk H2 LJ)/\aU c_ (V,2)=some (ae none 0 0)/\aU c_ (w,1)=some (ah d))
     ((refine eF _ ?_;(with_reducible repeat (first|exact .refl _|assumption|refine .drew ?_|refine .alloc ?_ _|refine .setCell ?_ (by (try simp only)<;>(try simp)<;>omega) _|refine .trans ?_ ‹Kept _ _›))))
     ((go_at_call 6;refine (h0 _ (gi.trans ?_)).mono ?_;(·(with_reducible first|exact (aG _).drew|exact (aG _).aZ.drew|exact (aG _).aZ.aZ.drew));rintro cv ch⟨eS,a2,a3,rfl,Ml,bF⟩;obtain⟨rfl,rfl,rfl⟩:=Ml.1 rfl;clear Ml;have HS3:=I bF.size;have p6:=bF.size;(try simp at p6);(try (have a7:=aB.kept (aB.drew (aB.new hs 34 #[(),(),()])) bF;have Wf:=a7.cell;have B3:=a7.frozen;have QG:=a7.lt));(try (have bc:=aB.kept (aB.drew (aB.new hs 37 #[(),(),(),()])) bF;have od:=bc.cell;have im:=bc.frozen;have rp:=bc.lt));(try (have hC:=aB.kept (aB.drew ((aB.new hs 34 #[(),(),()]).alloc (.cells #[(),(),(),()] 37))) bF;have mO:=hC.cell;have qD:=hC.frozen;have Wl:=hC.lt));(try (have cY:=aB.kept (aB.drew (xi (W:=hs.alloc (.cells #[(),(),()] 34)) (g:=hs.heap.size+1) (T:=37) (cs:=#[(),(),(),()]) (by simp))) bF;have yT:=cY.cell;have B6:=cY.frozen;have QJ:=cY.lt));(try (have a1:=aB.kept (aB.drew ((aB.new hs 37 #[(),(),(),()]).alloc (.cells #[(),(),()] 34))) bF;have IW:=a1.cell;have hE2:=a1.frozen;have hE3:=a1.lt));(try (have hF:=aB.kept (aB.drew (xi (W:=hs.alloc (.cells #[(),(),(),()] 37)) (g:=hs.heap.size+1) (T:=34) (cs:=#[(),(),()]) (by simp))) bF;have tS:=hF.cell;have QL:=hF.frozen;have IZ:=hF.lt));have w7:Kept hs ch:=(by (with_reducible first|exact (aG _).drew.trans bF|exact (aG _).aZ.drew.trans bF|exact (aG _).aZ.aZ.drew.trans bF))))
    all_goals
     rename_i hHeld;clear hHeld;go_wp2_with fail
     go_meet;exact⟨_,_,rfl,rfl,rfl,by (with_reducible repeat (first|exact xi (by simp)|refine PU ?_ (by omega) _ _ _ _|refine ee (a:=ah 0) (b:=ah 0) (c:=ah 0) (d:=ah 0) ?_ _ _ _ _|refine Ae ?_ (by omega) _ _ _|refine j8 (a:=ah 0) (b:=ah 0) (c:=ah 0) ?_ _ _ _|refine aB.alloc ?_ _|refine aB.drew ?_|refine aB.kept ?_ bF)),by (with_reducible repeat (first|exact xi (by simp)|refine PU ?_ (by omega) _ _ _ _|refine ee (a:=ah 0) (b:=ah 0) (c:=ah 0) (d:=ah 0) ?_ _ _ _ _|refine Ae ?_ (by omega) _ _ _|refine j8 (a:=ah 0) (b:=ah 0) (c:=ah 0) ?_ _ _ _|refine aB.alloc ?_ _|refine aB.drew ?_|refine aB.kept ?_ bF)),by (with_reducible repeat (first|exact .refl _|assumption|refine .drew ?_|refine .alloc ?_ _|refine .setCell ?_ (by (try simp only)<;>(try simp)<;>omega) _|refine .trans ?_ ‹Kept _ _›))⟩
   case rest=>
    obtain⟨g9,g11,rfl,rfl,rfl,iw,x',pb⟩:=hcut;generalize wc=mn at*;obtain⟨b,lD,jV⟩:=hU.out _ (qu.trans pb);obtain⟨dX,iu⟩:=b.p;obtain⟨ri,xG⟩:=iw.p;obtain⟨DL,AK⟩:=x'.p;have hw2:w.heap.size+1<mn:=jV.lt;clear b lD jV iw x' eF h0;go_upto_region 12 with fail
    generalize aL:mn.alloc _=fQ at*;obtain⟨K5,Bc⟩:=Kept.aQ aL;clear aL;generalize aj3:mn.heap.size=g12 at*;have Fx:=qu.trans (pb.trans K5);obtain⟨b,lD,jV⟩:=hU.out _ Fx;obtain⟨U,dH,bd,a8⟩:=((KG _ Fx).block (w':=fQ.drew) rfl).store Tryz.vr Tryz.CY l8 fu (aF #[cS,eo,di,q]);have Uh:=I (vN fQ.drew U (e8.trans Fx).drew bd a8 (w.heap.size+1) (pG _));have TR:Hid (aB U g12 120 #[cS,eo,di,q]):=I ((a8.block g12 Bc.lt (λe=>by have:=cJ e;omega)).trans Bc);have j4:Hid (aB U (w.heap.size+1) 120 #[(),(),(),()]):=I ((a8.block (w.heap.size+1) jV.lt (λe=>by have:=cJ e;omega)).trans jV);have tk:=b.cell 8;simp only[hL,iP,jd]at tk;have iu:=b.lt;obtain⟨bu,dW⟩:=lD.p;obtain⟨LI,Nz⟩:=Bc.p;clear dX ri xG DL AK b lD jV Bc bd a8 K5 pb;go_upto_region 13 with fail
    go_region
    all_goals
     clear dH tk bu LI Nz dW iu;have Ly:=TR.out;have ee:=j4.out;obtain⟨LI,Nz⟩:=Ly.p;have cE:=I ((((ee.ba 0 cS).ba 1 eo).ba 2 di).ba 3 q).cell;obtain⟨b4,gz,f4⟩:=ee.q;clear ee Ly;go_wp2_with fail
     have e5:=cE.out;exact bI (v:=aF #[cS,eo,di,q]) (by simp[results,results35,go_sem,e5]) rfl (Uh _ _ _ _)
def Qy(X:fD)(bk:gv X)(v:ak)(ns:List cl)(m d:J)(w:ag)(h:fg X v ns w)(al:X.G m d):bg 35 #[.pointer (some (X.P,0)),gZ m d] w (pW X m d v ns w):=by
 obtain⟨hI,iA,qM,hF⟩:=h.mp;by_cases ai:(m,d)∈hI
 .exact ai7 X bk v ns m d w h al hF ai
 .by_cases hm:0<=m
  .exact ai6 X bk v ns m d hm w h al iA qM hF ai
  .obtain rfl:m= -1:=by have:=bk.G3 al;omega
   exact ai8 X bk v ns d w h al iA qM hF ai
structure gQ(X:fD)(v:ak)(ns:List cl)(w w':ag):Prop where
 b:fg X v ns w'
 c:lU X.P X.M v w v w'
section
variable {X:fD} {v u:ak} {ns:List cl} {w w1 w2:ag}
def gQ.refl(h:fg X v ns w):gQ X v ns w w:=⟨h,.refl _ _ _ _⟩
def gQ.kept(h:gQ X v ns w w1)(k:Kept w1 w2):gQ X v ns w w2:=⟨h.b.keep k,h.c.kept k⟩
def gQ.drew(h:gQ X v ns w w1):gQ X v ns w w1.drew:=h.kept ((aG _).drew)
def gQ.alloc(h:gQ X v ns w w1)(o:Obj):gQ X v ns w (w1.alloc o):=h.kept ((aG _).alloc o)
def gQ.QB{m d:J}{e:Ending}(h:gQ X v ns w w1)(k:pW X m d v ns w1 e w2):gQ X v ns w w2:=⟨k.2.1,h.c.trans k.2.2⟩
def fg.tg(h:fg X v ns w):X.P<w.heap.size/\X.M<w.heap.size/\∀g,v.ownBlock=some g->g<w.heap.size:=by
 obtain⟨hI,-,-,f,ck,-⟩:=h.mp;exact⟨h.eH.lt,ck.lt,λg al=>(iF h.row g al).2⟩
def fg.grown(h:fg X v ns w1)(al:w1.grownBy w2 u.ownBlock)(ar:∀g,u.ownBlock=some g->X.w0.heap.size<=g/\g≠X.P/\g≠X.M/\v.ownBlock≠some g):fg X v ns w2:=by
 obtain⟨hI,au,bt,bF⟩:=h.mp;have av:=h.tg;refine⟨⟨al.os.trans h.et.os,al.tape.trans h.et.tape,al.output.trans h.et.output,fN h.et.size al.size,λi aD=> ?_⟩,(al.block _ av.1 (λe=>(ar _ e.symm).2.1 rfl)).trans h.eH,
  rJ (ok:=λb=>some b≠u.ownBlock) h.row (λb af bU=>al.block b af bU) (λb af e=>(ar _ e.symm).2.2.2 af),⟨hI,au,bt,bF.kept (al.block _ av.2.1 (λe=>(ar _ e.symm).2.2.1 rfl))⟩,fN h.JC al.size⟩
 have:=h.et.size;rw[al.block i (by omega) (λe=>by have:=(ar _ e.symm).1;omega)];exact h.et.block i aD
def gQ.grown(h:gQ X v ns w w1)(af:fg X v ns w)(al:w1.grownBy w2 u.ownBlock)(ar:∀g,u.ownBlock=some g->w.heap.size<=g):gQ X v ns w w2:=by
 have av:=af.tg;have aO:=af.et.size;refine⟨h.b.grown al λg e=> ?_,⟨al.os.trans h.c.os,al.tape.trans h.c.tape,al.output.trans h.c.output,fN h.c.size al.size,λi aD a b c=> ?_,.inl rfl⟩⟩
 .have:=ar g e;exact⟨by omega,by omega,by omega,λa_=>by have:=av.2.2 g a_;omega⟩
 .have:=h.c.size;rw[al.block i (by omega) (λe=>by have:=ar _ e.symm;omega)];exact h.c.block i aD a b c
def gQ.eH{g t:aa}{cs:ho}{m d:J}{e:Ending}(k:pW X m d v ns w1 e w2)(bc:aB w1 g t cs)(ab:g≠X.P)(ad:g≠X.M)(ao:v.ownBlock≠some g):aB w2 g t cs:=(k.2.2.block g bc.lt ab ad ao).trans bc
end
def JS(X:fD)(m d:J)(v:ak)(ns:List cl)(w:ag)(e:Ending)(w':ag):Prop:=∃u,e=bL u/\cb w' w 127 hY 2 u (jy X.l X.s X.c m d)/\gQ X v ns w w'
def Bw(w:ag)(b o:aa)(x:br)(g v:ak):Prop:=aU w (b,o)=some (.string x.aM)/\aU w (b,o+1)=some (ah x.bx)/\aU w (b,o+2)=some (ah x.bJ)/\aU w (b,o+3)=some (ah x.d_)/\
 aU w (b,o+4)=some (ah x.cZ)/\aU w (b,o+5)=some (ah x.cT)/\aU w (b,o+6)=some g/\aU w (b,o+7)=some v/\aU w (b,o+8)=some (.string x.src)
def lz.cells{w:ag}{b o:aa}{x:br}(h:lz w b o x):∃gC gc gx eT,Bw w b o x (ae gC x.g gc) (ae gx x.v eT)/\iU w (ae gC x.g gc) x.g/\iU w (ae gx x.v eT) x.v:=by
 obtain⟨ar,ab,ad,ao,aR,bw,⟨sY,eL,al⟩,⟨tr,hX,aK⟩,eI⟩:=h;obtain⟨gC,gc,rfl,-⟩:=al.1.at_;obtain⟨gx,eT,rfl,-⟩:=aK.1.at_;exact⟨gC,gc,gx,eT,⟨ar.1,ab.1,ad.1,ao.1,aR.1,bw.1,eL,hX,eI.1⟩,al,aK⟩
def Bw.kept{w w':ag}{b o:aa}{x:br}{g v:ak}(h:Bw w b o x g v)(ai:Kept w w')(af:b<w):Bw w' b o x g v:=by
 obtain⟨ar,ab,ad,ao,aR,bw,eL,hX,eI⟩:=h;exact⟨ai.aI af ar,ai.aI af ab,ai.aI af ad,ai.aI af ao,ai.aI af aR,ai.aI af bw,ai.aI af eL,ai.aI af hX,ai.aI af eI⟩
def gv.scope{X:fD}(bk:gv X){i:aa}{s:cq}(aD:X.l.sc[i]?=some s):∃kL qb fJ EF rc,X.b.S=ae (some ⟨kL,qb,none⟩) X.l.sc fJ/\kL<X.w0.heap.size/\X.w0.cell? ⟨kL,qb+i*5+1,none⟩=some (ah s.ms)/\X.w0.cell? ⟨kL,qb+i*5+4,none⟩=some (ae EF s.rs rc)/\
  (0<s.rs.length->∃ej ro,EF=some ⟨ej,ro,none⟩/\ej<X.w0.heap.size/\∀(j:aa)r,s.rs[j]?=some r->lz X.w0 ej (ro+j*9) r):=by
 obtain⟨dw,cM,cH,e,-,-,ad⟩:=bk.law;simp only[x4,x7,qk,kN]at e;obtain⟨-,-,cv⟩:=e;obtain⟨hM,fJ,rfl,-,-,aj⟩:=ad;have fB:=(b2 aD).1;obtain⟨kL,qb,rfl,jX,aq⟩:=aj (by omega);obtain⟨-,⟨s1,-⟩,-,-,⟨cD,uf,aJ⟩⟩:=aq i s aD;obtain⟨EF,rc,rfl,-,-,wm⟩:=aJ;exact⟨kL,qb,fJ,EF,rc,cv,jX,s1,uf,wm⟩
def iU.Sr{w:ag}{v:ak}{xs:List cw}(h:iU w v xs)(ar:∀x∈xs,x.o=34->0<=x.n):∀x∈xs,x.o=34->0<=x.n/\x.n<=9223372036854775807:=λx aj aA=>⟨ar x aj aA,(h.2.2 x aj).2⟩
def gv.anA{X:fD}(bk:gv X){d:J}(al:X.G (-1) d):∃(v:bC)(q:aa)(r:br),iE X.l X.s X.c (-1) d=⟨v,q,0,0,0,0⟩/\X.s.rs[q]?=some r/\r.g.length+r.v.length<=96/\∀x,(x∈r.g\/x∈r.v)->x.o=34->0<=x.n:=by
 have a1:=bk.vY;rcases al with⟨-,aE⟩|⟨ar,-⟩
 .obtain⟨v,q,r,aQ,a_,-⟩:=a1.own aE;have aO:=N9 (a1.ok.sc.small a1.mem).1 q;rw[a_,b9]at aO;exact⟨v,q,r,aQ,a_,aO,λx aj aA=>((a1.ok.sc.all _ _ a1.at_).node (fe a_) aj).2.2.2.1 aA⟩
 .omega
def anV(X:fD)(bk:gv X)(v:ak)(ns:List cl)(d:J)(w:ag)(h:fg X v ns w)(al:X.G (-1) d):bg 38 #[.pointer (some (X.P,0)),gZ (-1) d] w (JS X (-1) d v ns w):=by
 obtain⟨⟨cg,bK,Hd⟩,q,r,aK,aC,Wd,sZ⟩:=bk.anA al;obtain⟨kL,qb,fJ,EF,rc,xn,jX,s1,uf,wm⟩:=bk.scope bk.at_;have uZ:=(b2 aC).1;obtain⟨ej,ro,rfl,gq,kH⟩:=wm (by omega);obtain⟨gC,gc,gx,eT,Mv,B_,B'⟩:=(kH q r aC).cells;have fB:=(b2 bk.at_).1;have y4:X.fd (-1) d=aF #[cg,bK,Hd,q]:=by unfold fD.fd DS;rw[aK]
 have hrf:jy X.l X.s X.c (-1) d=tL [] r:=by
  unfold jy;rw[aP (by decide),aK,c7,aC,b9]
 have cW:=I (λw1(k:gQ X v ns w w1)=>(Qy X bk v ns (-1) d w1 k.b al).mono (λe w2(aT:pW X (-1) d v ns w1 e w2)=>bb (show e=bL (aF #[cg,bK,Hd,q]) by rw[<-y4];exact aT.1) aT));have cI:=I (λw1(k:gQ X v ns w w1)=>aaH w bf (aF #[r.aM,r.bx,r.bJ,r.d_,r.cZ,r.cT,ae gC r.g gc,ae gx r.v eT,r.src]) [] r X.w0 w1 (cb.nil _ _ _) k.b.et h.et.size k.c.size ⟨_,_,rfl,B_,B'⟩ (by simp;omega)
  (λx aj aA=>aj.elim (λaj=>B_.Sr (λy bZ=>sZ y (.inl bZ)) x aj aA) (λaj=>B'.Sr (λy bZ=>sZ y (.inr bZ)) x aj aA)))
 unfold qy at cI;have KL:=I (λu w1 w2(k:gQ X v ns w w1)(hu:cb w2 w 127 hY 2 u (tL [] r))(jl:o6 bf w1 u w2)=>(show JS X (-1) d v ns w (bL u) w2 from⟨u,rfl,by rw[hrf];exact hu,k.grown h jl.l4 (λg e=>by cases e)⟩));have aV:Kept w (w.alloc (.cells #[ah (-1),d] 78)):=(aG w).alloc _;have cP:=aB.new w 78 #[ah (-1),d];have aN:=h.tg;have bM:Hid (∀w1 w2 e,pW X (-1) d v ns w1 e w2->gQ X v ns w w1/\aB w1 w 78 #[ah (-1),d]->gQ X v ns w w2/\aB w2 w 78 #[ah (-1),d]):=I (λw1 w2 e bV aT=>⟨aT.1.QB bV,gQ.eH bV aT.2 (by omega) (by omega) (λe=>by have:=aN.2.2 _ e;omega)⟩);have eF:=I (show∀c_,(gQ X v ns w c_/\aB c_ w 78 #[ah (-1),d])->((gQ X v ns w c_/\aB c_ w 78 #[ah (-1),d])/\aU c_ (X.P,4)=some (ah (X.i:J))/\aU c_ (X.P,3)=some (ae (some (kL,qb)) X.l.sc fJ)/\aU c_ (w,0)=some (ah (-1))/\aU c_ (w,1)=some (ah d)/\
   aU c_ (kL,qb+X.i*5+4)=some (ae (some (ej,ro)) X.s.rs rc)/\Bw c_ ej (ro+q*9) r (ae gC r.g gc) (ae gx r.v eT))from λc_ aT=>⟨aT,by
    have B:=aT.1.b.eH;unfold oI at B;rw[xn,bk.sc]at B;exact⟨B.cell 4,B.cell 3,aT.2.cell 0,aT.2.cell 1,aT.1.b.et.aI jX uf,Mv.kept aT.1.b.et gq⟩⟩)
 have T4:Hid (∀w1 w2 u,o6 bf w1 u w2->gQ X v ns w w1/\aB w1 w 78 #[ah (-1),d]->gQ X v ns w w2/\aB w2 w 78 #[ah (-1),d]):=I (λw1 w2 u jl aT=>⟨aT.1.grown h jl.l4 (λg e=>by cases e),jl.eH aT.2 (λe=>by cases e)⟩);have Wy:=aN.1;unfold gZ;clear kH wm Mv B_ B' sZ aK aC y4 hrf;unfold Bw at eF;have db:(X.i:J)<X.l.sc.length:=by omega
 have Cw:(q:J)<X.s.rs.length:=by omega
 generalize X.l.sc.length=fO at*;generalize X.s.rs.length=jb at*;generalize r.g.length=oL at*;generalize r.v.length=dR at*;generalize X.P=P at*;have RN:=bG jX h.et.size;have AE:=bG gq h.et.size;go_enter func38,ntmps38
 go_upto_region 1 with fail
 have r4:gQ X v ns w (w.alloc (.cells #[ah (-1),d] 78)):=(gQ.refl h).kept aV;generalize w.alloc (.cells #[ah (-1),d] 78)=W at*;have eb:=I (λ(w1:ag)(k:gQ X v ns w w1)=>k.c.size);obtain⟨-,kW,fP,z0,fL,z2,eU,dr,eV,jP,pF,vz,A4,A5,sv⟩:=eF.out W ⟨r4,cP⟩;have cR:=cP.lt;have iu:=bG Wy aV.size;have atI:=bG RN aV.size;have avw:=bG AE aV.size;have aj1:∀w1:ag,(Instr.field 120 (aF #[cg,bK,Hd,q]) 1).run prog w1= .ok q w1:=λw1=>by kernel_rfl
 go_upto_region 3 with fail
 go_region_held3 (λc_=>(gQ X v ns w c_/\aB c_ w 78 #[ah (-1),d])/\aU c_ (P,4)=some (ah (X.i:J))/\aU c_ (P,3)=some (ae (some (kL,qb)) fO fJ)/\aU c_ (w,0)=some (ah (-1))/\aU c_ (w,1)=some (ah d)/\aU c_ (kL,qb+X.i*5+4)=some (ae (some (ej,ro)) jb rc)/\aU c_ (ej,ro+q*9)=some (.string r.aM)/\aU c_ (ej,ro+q*9+1)=some (ah r.bx)/\aU c_ (ej,ro+q*9+2)=some (ah r.bJ)/\aU c_ (ej,ro+q*9+3)=some (ah r.d_)/\aU c_ (ej,ro+q*9+4)=some (ah r.cZ)/\aU c_ (ej,ro+q*9+5)=some (ah r.cT)/\aU c_ (ej,ro+q*9+6)=some (ae gC oL gc)/\aU c_ (ej,ro+q*9+7)=some (ae gx dR eT)/\aU c_ (ej,ro+q*9+8)=some (.string r.src))
  ((refine eF _ ?_;(with_reducible repeat (first|assumption|refine bb ?_ ?_|refine gQ.drew ?_|refine gQ.alloc ?_ _|refine aB.drew ?_|refine aB.alloc ?_ _))))
  ((first
   |(go_at_call 35;refine (cW _ ?_).mono ?_;(·(with_reducible repeat (first|assumption|refine bb ?_ ?_|refine gQ.drew ?_|refine gQ.alloc ?_ _|refine aB.drew ?_|refine aB.alloc ?_ _)));rintro cv ch⟨rfl,As⟩;obtain⟨UP,B33⟩:=bM.out _ _ _ As (by (with_reducible repeat (first|assumption|refine bb ?_ ?_|refine gQ.drew ?_|refine gQ.alloc ?_ _|refine aB.drew ?_|refine aB.alloc ?_ _)));clear As;have p6:=UP.c.size)
   |(go_at_call 64;refine (cI _ ?_).mono ?_;(·(with_reducible repeat (first|assumption|refine bb ?_ ?_|refine gQ.drew ?_|refine gQ.alloc ?_ _|refine aB.drew ?_|refine aB.alloc ?_ _)));rintro h_ eK⟨u4,rfl,Cz,xu⟩;have pa:=I (KL _ _ _ (by (with_reducible repeat (first|assumption|refine bb ?_ ?_|refine gQ.drew ?_|refine gQ.alloc ?_ _|refine aB.drew ?_|refine aB.alloc ?_ _))) Cz xu);obtain⟨aud,B44⟩:=T4.out _ _ _ xu (by (with_reducible repeat (first|assumption|refine bb ?_ ?_|refine gQ.drew ?_|refine gQ.alloc ?_ _|refine aB.drew ?_|refine aB.alloc ?_ _)));have wq:=aud.c.size;clear Cz xu)))
 all_goals
  rename_i hHeld;clear hHeld;go_wp2_with fail
  go_ret;exact pa
section
variable {X:fD} {v u:ak} {ns:List cl} {w w1 w2:ag} {m d:J} {e:Ending}
def aji{B T k n:aa}{xs:dN}(au:pW X m d v ns w1 e w2)(h:w1.ownsRow B T k u n xs)(hu:∀g,u.ownBlock=some g->g≠X.P/\g≠X.M/\v.ownBlock≠some g):w2.ownsRow B T k u n xs:=
 rJ (ok:=λb=>b≠X.P/\b≠X.M/\v.ownBlock≠some b) h (λb af aA=>au.2.2.block b af aA.1 aA.2.1 aA.2.2) hu
def gv.amz(bk:gv X)(hm:0<=m)(al:X.G m d)(j:aa)(ay:j<X.c.mem.length):X.G (j:J) d/\∃(v:bC)(q:aa)(r:br),iE X.l X.s X.c (j:J) d=⟨v,q,0,0,0,0⟩/\(bl X.l X.s).rs[q]?=some r/\r.g.length+r.v.length<=96/\∀x,(x∈r.g\/x∈r.v)->x.o=34->0<=x.n:=by
 have a1:=bk.vY;rcases al with⟨e,-⟩|⟨ar,ab,ad,ao,aR⟩
 .omega
 .obtain⟨sh,dK,-⟩:=a1.JF (by omega);have pk:=bn (l:=X.c.mem) (i:=(j:J).toNat) (by omega);obtain⟨v,q,r,aQ,a_,-⟩:=a1.t' (m:=(j:J)) (by omega) pk ad ao aR;have aO:=N9 (a1.ok.sc.C0 a1.mem).1 q;rw[a_,b9]at aO;exact⟨.inr ⟨by omega,by omega,ad,ao,aR⟩,v,q,r,aQ,a_,aO,λx aj aA=>((a1.ok.sc.all _ _ dK).node (fe a_) aj).2.2.2.1 aA⟩
end
noncomputable def xJ(X:fD)(d:J)(i:aa):List (J×J):=(List.range i).foldl (λacc(j:aa)=>tL acc ((bl X.l X.s).rs[(iE X.l X.s X.c (j:J) d).cf.toNat]?.getD jz)) []
def amO(X:fD)(d:J)(i:aa):xJ X d (i+1)=tL (xJ X d i) ((bl X.l X.s).rs[(iE X.l X.s X.c (i:J) d).cf.toNat]?.getD jz):=by
 unfold xJ;rw[Ts,Tm];rfl
def amN{X:fD}(bk:gv X)(d:J)(i:aa):(xJ X d i).length<=96*i:=by
 have a1:=bk.vY;have:=U2 (g:=λj:aa=>(bl X.l X.s).rs[(iE X.l X.s X.c (j:J) d).cf.toNat]?.getD jz) (k:=96) (λj=>N9 (a1.ok.sc.C0 a1.mem).1 _) (List.range i) [];rw[vG]at this;simpa[xJ] using this
def cb.low{α:Type}{w:ag}{B ur T k:aa}{f:α->List ak}{v:ak}{xs:List α}(h:cb w B T f k v xs)(bc:ur<=B):cb w ur T f k v xs:=by
 refine⟨h.1,?_⟩;rcases h.2 with ad|⟨g,cap,cur,rfl,af,ao⟩
 .exact .inl ad
 .exact .inr ⟨g,cap,cur,rfl,fN bc af,ao⟩
structure sO(X:fD)(v:ak)(ns:List cl)(m d:J)(w:ag)(a:ak)(l:List (J×J))(w':ag):Prop where
 s:gQ X v ns w w'
 b:aB w' w 78 #[m,d]
 g:cb w' (w.heap.size+1) 127 hY 2 a l
section
variable {X:fD} {v a u:ak} {ns:List cl} {m d:J} {w w1 w2:ag} {l l':List (J×J)}
def sO.own(h:sO X v ns m d w a l w1)(af:fg X v ns w)(g:aa)(e:a.ownBlock=some g):g≠X.P/\g≠X.M/\v.ownBlock≠some g:=by
 have ab:=(iF h.g g e).1;have av:=af.tg;exact⟨by omega,by omega,λa_=>by have:=av.2.2 g a_;omega⟩
def sO.QB{jY fp:J}{e:Ending}(h:sO X v ns m d w a l w1)(af:fg X v ns w)(k:pW X jY fp v ns w1 e w2):sO X v ns m d w a l w2:=by
 have av:=af.tg;exact⟨h.s.QB k,gQ.eH k h.b (by omega) (by omega) (λe=>by have:=av.2.2 _ e;omega),aji k h.g (h.own af)⟩
def sO.kept(h:sO X v ns m d w a l w1)(k:Kept w1 w2):sO X v ns m d w a l w2:=⟨h.s.kept k,h.b.kept k,h.g.lk k⟩
def sO.F5(h:sO X v ns m d w a l w1)(af:fg X v ns w)(al:cb w2 (w.heap.size+1) 127 hY 2 u l')(k:o6 a w1 u w2):sO X v ns m d w u l' w2:=
 ⟨h.s.grown af k.l4 (λg e=>Nat.le_of_succ_le (iF h.g g e).1),k.eH h.b (λe=>by have:=(iF h.g _ e).1;omega),al⟩
end
def anU(X:fD)(bk:gv X)(v:ak)(ns:List cl)(m d:J)(hm:0<=m)(w:ag)(h:fg X v ns w)(al:X.G m d):bg 38 #[.pointer (some (X.P,0)),gZ m d] w (JS X m d v ns w):=by
 obtain⟨-,-,-,-,-,-,-,sh,dK⟩:=bk.t' hm al;obtain⟨kL,qb,fJ,rA0,rc0,xn,jX,s1,-,-⟩:=bk.scope bk.at_;obtain⟨sb',so',cS',EF,rc,VX,-,-,uf,wm⟩:=bk.scope dK;rw[xn]at VX;simp only[i_,vF,wJ,kN,tu]at VX;obtain⟨⟨rfl,rfl⟩,rfl⟩:=VX;obtain⟨NR,Xi⟩:∃NR:aa,X.s.ms=NR:=⟨X.s.ms.toNat,by omega⟩;rw[Xi]at s1 dK uf;rw[c7]at dK uf;have fB:=(b2 bk.at_).1;have gp:=(b2 dK).1;obtain⟨-,-,-,-,-,-,-,-,eh,fR,ff,ih,-,-,-,-,yS⟩:=id bk.form;have hm8:=bk.m8;have Dt:=I (λ(j:aa)(ay:j<X.c.mem.length)=>bk.amz hm al j ay);have Pl:=I wm;have h0:=I (λ(j:aa)w1(k:gQ X v ns w w1)(pk:X.G (j:J) d)=>Qy X bk v ns (j:J) d w1 k.b pk);have vR:=I (λi=>amN bk d i);have Pj:=I (amO X d);have Uq:=I (show jy X.l X.s X.c m d=xJ X d X.c.mem from by unfold jy;rw[aw (by omega)];rfl);have yg:=I h;have KL:=I (λu w1(k:sO X v ns m d w u (jy X.l X.s X.c m d) w1)=>(show JS X m d v ns w (bL u) w1 from⟨u,rfl,k.g.low (pG _),k.s⟩));have mg:=I (λ(r:br)(gC gx:gu)(gc eT:aa)(B_:iU X.w0 (ae gC r.g gc) r.g)(B':iU X.w0 (ae gx r.v eT) r.v)(Wd:r.g.length+r.v.length<=96)(sZ:∀x,(x∈r.g\/x∈r.v)->x.o=34->0<=x.n)(a:ak)(l:List (J×J))(av:l.length<=768)w1(k:sO X v ns m d w a l w1)=>aaH (w.heap.size+1) a (aF #[r.aM,r.bx,r.bJ,r.d_,r.cZ,r.cT,ae gC r.g gc,ae gx r.v eT,r.src]) l r X.w0 w1 k.g k.s.b.et (Nat.le_succ_of_le h.et.size) k.b.lt ⟨_,_,rfl,B_,B'⟩ (by omega)
  (λx aj aA=>aj.elim (λaj=>B_.Sr (λy bZ=>sZ y (.inl bZ)) x aj aA) (λaj=>B'.Sr (λy bZ=>sZ y (.inr bZ)) x aj aA)))
 unfold qy at mg;have rX:=I (λw1(k:fg X v ns w1)=>(by
  have B:=k.eH;unfold oI at B;rw[xn,yS,bk.sc]at B;exact⟨B.lt,B.cell 3,B.cell 4,B.cell 7,k.et.aI jX s1,k.et.aI jX uf⟩:X.P<w1.heap.size/\aU w1 (X.P,3)=some (ae (some (kL,qb)) X.l.sc fJ)/\aU w1 (X.P,4)=some (ah (X.i:J))/\aU w1 (X.P,7)=some (ae ff X.c.mem ih)/\aU w1 (kL,qb+X.i*5+1)=some (ah (NR:J))/\aU w1 (kL,qb+NR*5+4)=some (.slice EF (bl X.l X.s).rs.length rc)))
 have XC:=bG jX h.et.size;have Np:=h.et.size;have db:(X.i:J)<X.l.sc.length:=by omega
 have jW:(NR:J)<X.l.sc.length:=by omega
 have aV:Kept w (w.alloc (.cells #[m,d] 78)):=(aG w).alloc _;have Dz:sO X v ns m d w bf (xJ X d 0) (w.alloc (.cells #[m,d] 78)):=⟨(gQ.refl h).kept aV,aB.new w 78 #[m,d],cb.nil _ _ _⟩;have Jf:(m<0)=False:=by simp;omega
 clear s1 uf wm xn yS dK Xi sh h al;unfold gZ;generalize X.l.sc.length=fO at*;generalize p2:X.c.mem.length=eE at*;generalize Cn:(bl X.l X.s).rs.length=jb at*;have wW:=I Cn;clear p2 Cn;go_enter func38,ntmps38
 go_upto_region 1 with fail
 generalize w.alloc (.cells #[m,d] 78)=W at*;have qP:=aV.size;obtain⟨iu,fP,kW,AT,fL,z4⟩:=rX.out W Dz.s.b;have bu:=Dz.b.cell;have dW:=Dz.b.lt;have atI:=bG XC qP;go_upto_region 4 with fail
 go_cut [6] (λx cj=>x=ae EF jb rc/\Kept W cj)
 case first=>
  go_region
  all_goals
   go_wp2_with fail
   go_meet;exact⟨rfl,(aG _).drew⟩
 obtain⟨rfl,oe⟩:=hcut;generalize wc=dV at*;have r1:=Dz.kept oe;clear iu fP kW AT fL z4 bu dW atI oe Dz qP aV;obtain⟨iu,fP,kW,AT,fL,z4⟩:=rX.out dV r1.s.b;clear fP kW fL z4;go_upto_region 6 with fail
 clear iu AT;go_loopw [5,57] (λa y wr=>∃i:aa,y=ah i/\i<=eE/\sO X v ns m d w a (xJ X d i) wr) (λ_ y _=>eE-(intOf y).toNat)
 case atStart=>exact⟨0,rfl,d' _,r1⟩
 case round=>
  obtain⟨i,rfl,dG,bE⟩:=hrel;clear r1;by_cases aN:i<eE
  .obtain⟨kG,⟨cg,bK,Hd⟩,q,r,aK,aC,Wd,sZ⟩:=Dt.out i aN;have uZ:=(b2 aC).1;obtain⟨ej,ro,rfl,gq,kH⟩:=Pl.out (by have:=wW.out;omega);obtain⟨gC,gc,gx,eT,Mv,B_,B'⟩:=(kH q r aC).cells;have y4:X.fd (i:J) d=aF #[cg,bK,Hd,q]:=by unfold fD.fd DS;rw[aK]
   have mU:=Pj.out i;rw[aK,c7,aC,b9]at mU;have fl:=I mU;have Cw:(q:J)<jb:=by have:=wW.out;omega
   have Rk:(i:J)<eE:=by omega
   have uV:=vR.out i;have akh:(xJ X d i).length<=768:=by omega
   have cW:=I (λw1(k:gQ X v ns w w1)=>(h0 i w1 k kG).mono (λe w2(aT:pW X (i:J) d v ns w1 e w2)=>bb (show e=bL (aF #[cg,bK,Hd,q]) by rw[<-y4];exact aT.1) aT));have cI:=I (λa w1(k:sO X v ns m d w a (xJ X d i) w1)=>mg r gC gx gc eT B_ B' Wd sZ a (xJ X d i) akh w1 k);have aj1:∀w1:ag,(Instr.field 120 (aF #[cg,bK,Hd,q]) 1).run prog w1= .ok q w1:=λw1=>by kernel_rfl
   have HR9:=I (λw1(k:gQ X v ns w w1)=>Mv.kept k.b.et gq);unfold Bw at HR9;have AE:=bG gq Np;obtain⟨eS,aY,rfl,-⟩:=cb.jx m' bE.g;generalize (xJ X d i).length=e9 at*;have bu:=bE.b.cell;have dW:=bE.b.lt;obtain⟨iu,-⟩:=rX.out wr bE.s.b;have dB:=I bE;clear bE aK aC y4 mU kH B_ B' sZ Mv uV;generalize r.g.length=oL at*;generalize r.v.length=dR at*;go_wp2_with (first
    |(go_at_call 35;refine (cW _ dB.s).mono ?_;rintro cv ch⟨rfl,As⟩;have oh:=dB.QB yg As;obtain⟨eU,dr,eV,jP,pF,vz,A4,A5,sv⟩:=HR9.out ch oh.s;have asE:=bG AE oh.s.c.size;have oE:=I oh;clear As oh)
    |(go_at_call 64;refine (cI _ _ oE).mono ?_;rintro h_ eK⟨u4,rfl,Cz,xu⟩;have n4:=I (oE.F5 yg Cz xu);clear Cz xu))
   go_roundw
   case rel=>exact⟨i+1,by go_num,aN,by rw[fl];exact n4⟩
   case measure=>simp[intOf];omega
  .obtain rfl:i=eE:=by omega
   have Rk:¬((i:J)<i):=by omega
   have dB:=I bE;rw[<-Uq]at dB;clear bE;go_wp2_with fail
   go_ret;exact KL _ _ dB
def CD(c:gl)(m:J):List bC:=if m<0 then c.ins else c.mem[m.toNat]?.getD []
def RY(u:ak)(w:ag)(e:Ending)(w':ag):Prop:=e=bL u/\Kept w w'
def alA(X:fD)(bk:gv X)(v:ak)(ns:List cl)(m:J)(w:ag)(h:fg X v ns w)(hm:m<0):bg 65 #[.pointer (some (X.P,0)),m] w (RY X.b.mj w):=by
 have b6:=bk.ins.kept h.et;have B:=h.eH;have cK:=B.cell 6;have cR:=B.lt;simp only[oI,hL,iP,jd]at cK;obtain⟨A,c,e,-⟩:=id b6;rw[e]at cK⊢;generalize X.P=P at*;clear b6 h B e;go_enter func65,ntmps65
 go_wp2_with fail
 go_ret;exact⟨rfl,aG w⟩
def alC(X:fD)(v:ak)(ns:List cl)(j:aa)(w:ag)(h:fg X v ns w)(ay:j<X.c.mem.length)(eh:gu)(fR k:aa)(b o c:aa)(e:X.b.M=ae (some (b,o)) X.c.mem c)(af:b<w)(d0:aU w (b,o+j)=some (ae eh k fR)):bg 65 #[.pointer (some (X.P,0)),ah (j:J)] w (RY (ae eh k fR) w):=by
 have B:=h.eH;have cK:=B.cell 7;have cR:=B.lt;simp only[oI,hL,iP,jd]at cK;rw[e]at cK;have hH:(j:J)<X.c.mem.length:=by omega
 generalize X.c.mem.length=eE at*;generalize X.P=P at*;have W3:((j:J)<0)=False:=by simp
 clear B e h;go_enter func65,ntmps65
 go_wp2_with fail
 go_ret;exact⟨rfl,aG w⟩
def alz(X:fD)(bk:gv X)(m:J)(hm:m<X.c.mem.length):∃u,ft X.w0 u (CD X.c m)/\∀(v:ak)(ns:List cl)(w:ag),fg X v ns w->bg 65 #[.pointer (some (X.P,0)),m] w (RY u w):=by
 by_cases ar:m<0
 .exact⟨X.b.mj,by unfold CD;rw[aP ar];exact bk.ins,λv ns w h=>alA X bk v ns m w h ar⟩
 .obtain⟨j,rfl⟩:∃j:aa,m=j:=⟨m.toNat,by omega⟩;have ay:j<X.c.mem.length:=by omega
  obtain⟨A,c,e,-,aj⟩:=bk.mem.at_;obtain⟨b,o,rfl,af,aq⟩:=aj (by omega);have al:=bn ay;obtain⟨-,vI,ci,d0,b6⟩:=aq j _ al;exact⟨_,by unfold CD;rw[aw ar,c7,al,b9];exact b6,λv ns w h=>alC X v ns j w h ay vI ci _ b o c e (bG af h.et.size) (h.et.aI af d0)⟩
end Go.Proofs.YtilhklpfkgbikaaGreatDoor
