import Derived.Test.YtilhklpfkgbikaaGreatDoorAL
set_option linter.all false
namespace Go.Proofs.YtilhklpfkgbikaaGreatDoor
open Go.RowKit Go.Proofs.Tryz
set_option maxRecDepth 100000
set_option maxHeartbeats 32000000
def n_.from_{X:fD}{v:ak}{ns:List cl}{w w1 w2:ag}{e:Ending}(h:n_ X v ns w1 e w2)(k:Kept w w1):n_ X v ns w e w2:=by
 obtain⟨he,v',ab,ad⟩:=h;exact⟨he,v',ab,(lU.ky k).trans ad⟩
def ahY(X:fD)(bk:gv X)(v:ak)(ns:List cl)(m d cQ dp:J)(w:ag)(h:fg X v ns w)(av:ns.length<=1000001):bg 39 #[.pointer (some (X.P,0)),gZ m d,aF #[ah 3,cQ],dp] w (n_ X v (ns++[⟨3,dp,m,cQ,-1,v0⟩]) w):=by
 have Nl:v0=⟨0,0,0⟩:=rfl;rw[Nl];have mg:=I (λw1(k:Kept w w1)=>(Lw X bk v ns (⟨3,dp,m,cQ,-1,v0⟩) w1 (h.keep k) av).mono (λe w2(aT:n_ X v (ns++[⟨3,dp,m,cQ,-1,v0⟩]) w1 e w2)=>aT.from_ k));unfold tt at mg;dsimp only at mg;have B:=h.eH;have iu:=B.lt;have aV:Kept w (((w.alloc (.cells #[m,d] 78)).alloc (.cells #[ah 3,cQ] 127)).alloc (.cells #[(),dp,m,cQ,ah (-1),(),(),()] 45)):=(((aG w).alloc _).alloc _).alloc _;obtain⟨hq,e7,ga⟩:=(aG (((w.alloc (.cells #[m,d] 78)).alloc (.cells #[ah 3,cQ] 127)).alloc (.cells #[(),dp,m,cQ,ah (-1),(),(),()] 45))).xh;unfold gZ;go_enter func39,ntmps39
 go_upto_region 3 with fail
 generalize ((w.alloc (.cells #[m,d] 78)).alloc (.cells #[ah 3,cQ] 127)).alloc (.cells #[(),dp,m,cQ,ah (-1),(),(),()] 45)=W at*;obtain⟨b_,gA⟩:=hq.p;obtain⟨dn,fq⟩:=e7.p;obtain⟨hV,mB,f8⟩:=ga.q;go_upto_region 15 with fail
 have Bd:=ga.ba 0 (ah 3);have ca:Kept w (W.setCell ⟨w.heap.size+2,0,none⟩ (ah 3)):=aV.setCell (p:=⟨w.heap.size+2,0,none⟩) (by simp) _;have lP1:X.P<(W.setCell ⟨w.heap.size+2,0,none⟩ (ah 3)).heap.size:=bG iu ca.size;simp only[kM,lS]at Bd;generalize W.setCell ⟨w.heap.size+2,0,none⟩ (ah 3)=V at*;clear b_ gA dn fq hV mB f8 hq e7 ga aV;obtain⟨hV,mB⟩:=Bd.p;go_region_with (go_at_call 37;refine (mg _ ?_).mono ?_;(·exact ca.drew);rintro aQ w1 a7;have ke:=I a7;obtain⟨rfl,-⟩:=a7)
 all_goals
  go_wp2_with fail
  go_end0
  exact ke
def ahU(X:fD)(bk:gv X)(v:ak)(ns:List cl)(m d cQ dp:J)(w:ag)(h:fg X v ns w)(av:ns.length<=1000001):bg 39 #[.pointer (some (X.P,0)),gZ m d,aF #[ah 2,cQ],dp] w (n_ X v (ns++[⟨4,dp,m,cQ,-1,⟨5,0,X.c.d⟩⟩]) w):=by
 have mg:=I (λw1(k:Kept w w1)=>(Lw X bk v ns (⟨4,dp,m,cQ,-1,⟨5,0,X.c.d⟩⟩) w1 (h.keep k) av).mono (λe w2(aT:n_ X v (ns++[⟨4,dp,m,cQ,-1,⟨5,0,X.c.d⟩⟩]) w1 e w2)=>aT.from_ k));unfold tt at mg;dsimp only at mg;have B:=h.eH;have iu:=B.lt;have aV:Kept w (((w.alloc (.cells #[m,d] 78)).alloc (.cells #[ah 2,cQ] 127)).alloc (.cells #[(),dp,m,cQ,ah (-1),(),(),()] 45)):=(((aG w).alloc _).alloc _).alloc _;obtain⟨hq,e7,ga⟩:=(aG (((w.alloc (.cells #[m,d] 78)).alloc (.cells #[ah 2,cQ] 127)).alloc (.cells #[(),dp,m,cQ,ah (-1),(),(),()] 45))).xh;unfold gZ;go_enter func39,ntmps39
 go_upto_region 3 with fail
 generalize ((w.alloc (.cells #[m,d] 78)).alloc (.cells #[ah 2,cQ] 127)).alloc (.cells #[(),dp,m,cQ,ah (-1),(),(),()] 45)=W at*;obtain⟨b_,gA⟩:=hq.p;obtain⟨dn,fq⟩:=e7.p;obtain⟨hV,mB,f8⟩:=ga.q;have zr:=(B.kept aV).cell 5;simp only[oI,bk.dt,hL,iP,jd]at zr;have lP0:=bG iu aV.size;have hPn:X.P<w.heap.size:=iu;go_upto_region 10 with fail
 have p5b:(W.setCell ⟨w.heap.size+2,0,none⟩ (ah 4)).cell? (X.P,5)=some (ah X.c.d):=by rw[Db (a:=⟨X.P,5,none⟩) (jQ W ⟨w.heap.size+2,0,none⟩ _ X.P (by simp only;omega))];exact zr
 go_upto_region 12 with fail
 have Bd:=(((ga.ba 0 (ah 4)).ba 5 (ah 5)).ba 6 ()).ba 7 X.c.d;simp only[kM,lS,qg]at Bd;have ca:Kept w ((((W.setCell ⟨w.heap.size+2,0,none⟩ (ah 4)).setCell ⟨w.heap.size+2,5,none⟩ (ah 5)).setCell ⟨w.heap.size+2,6,none⟩ ()).setCell ⟨w.heap.size+2,7,none⟩ X.c.d):=(by (exact aV.sc (by omega)|>.sc (by omega)|>.sc (by omega)|>.sc (by omega)));have lP1:=bG iu ca.size;clear p5b zr;generalize (((W.setCell ⟨w.heap.size+2,0,none⟩ (ah 4)).setCell ⟨w.heap.size+2,5,none⟩ (ah 5)).setCell ⟨w.heap.size+2,6,none⟩ ()).setCell ⟨w.heap.size+2,7,none⟩ X.c.d=V at*;clear b_ gA dn fq hV mB f8 hq e7 ga aV;obtain⟨hV,mB⟩:=Bd.p;go_region_with (go_at_call 37;refine (mg _ ?_).mono ?_;(·exact ca.drew);rintro aQ w1 a7;have ke:=I a7;obtain⟨rfl,-⟩:=a7)
 all_goals
  go_wp2_with fail
  go_end0
  exact ke
def ahW(X:fD)(bk:gv X)(v:ak)(ns:List cl)(m d:J)(j:aa)(dp:J)(w:ag)(h:fg X v ns w)(av:ns.length<=1000001)(hm:m<X.c.mem.length)(ep fj iO:J)(aj:(CD X.c m)[j]?=some ⟨ep,fj,iO⟩):bg 39 #[.pointer (some (X.P,0)),gZ m d,aF #[(),ah (j:J)],dp] w (n_ X v (ns++[⟨2,dp,m,(j:J),-1,⟨ep,fj,iO⟩⟩]) w):=by
 obtain⟨u,hu,acd⟩:=alz X bk m hm;have qL:=(b2 aj).1;obtain⟨g3,kJ,dq,dI,rfl,xD⟩:∃g3 kJ dq dI,u=ae (some ⟨g3,kJ,none⟩) dq dI/\j<dq/\g3<X.w0.heap.size/\X.w0.cell? ⟨g3,kJ+j*3,none⟩=some (ah ep)/\X.w0.cell? ⟨g3,kJ+j*3+1,none⟩=some (ah fj)/\X.w0.cell? ⟨g3,kJ+j*3+2,none⟩=some (ah iO):=by
  obtain⟨A,q,rfl,xD⟩:=ft.at_ hu;obtain⟨g3,kJ,rfl,l7,uQ⟩:=xD (by omega);obtain⟨eU,dr,eV⟩:=uQ j _ aj;exact⟨_,_,_,_,rfl,qL,l7,eU,dr,eV⟩
 obtain⟨hjA,l7,bX,bQ,cx⟩:=xD;have Dn:=I (λw1(k:Kept w w1)=>acd v ns w1 (h.keep k));unfold RY at Dn;have aj4:=bG l7 h.et.size;have HX3:=I (λw1(k:Kept w w1)=>bb ((h.et.trans k).aI l7 bX) (bb ((h.et.trans k).aI l7 bQ) ((h.et.trans k).aI l7 cx)));clear aj hu acd bX bQ cx qL;have mg:=I (λw1(k:Kept w w1)=>(Lw X bk v ns (⟨2,dp,m,(j:J),-1,⟨ep,fj,iO⟩⟩) w1 (h.keep k) av).mono (λe w2(aT:n_ X v (ns++[⟨2,dp,m,(j:J),-1,⟨ep,fj,iO⟩⟩]) w1 e w2)=>aT.from_ k));unfold tt at mg;dsimp only at mg;have B:=h.eH;have iu:=B.lt;have aV:Kept w (((w.alloc (.cells #[m,d] 78)).alloc (.cells #[(),ah (j:J)] 127)).alloc (.cells #[(),dp,m,ah (j:J),ah (-1),(),(),()] 45)):=(((aG w).alloc _).alloc _).alloc _;obtain⟨hq,e7,ga⟩:=(aG (((w.alloc (.cells #[m,d] 78)).alloc (.cells #[(),ah (j:J)] 127)).alloc (.cells #[(),dp,m,ah (j:J),ah (-1),(),(),()] 45))).xh;unfold gZ;go_enter func39,ntmps39
 go_upto_region 3 with fail
 generalize ((w.alloc (.cells #[m,d] 78)).alloc (.cells #[(),ah (j:J)] 127)).alloc (.cells #[(),dp,m,ah (j:J),ah (-1),(),(),()] 45)=W at*;obtain⟨b_,gA⟩:=hq.p;obtain⟨dn,fq⟩:=e7.p;obtain⟨hV,mB,f8⟩:=ga.q;go_upto_region 5 with fail
 have kT:(j:J)<dq:=by omega
 have Bd:=ga.ba 0 (ah 2);simp only[kM,lS]at Bd;have ca:Kept w (W.setCell ⟨w.heap.size+2,0,none⟩ (ah 2)):=(by (exact aV.sc (by omega)));have TE:=hq.far (p:=⟨w.heap.size+2,0,none⟩) (by simp only;omega) (ah 2);have TF:=e7.far (p:=⟨w.heap.size+2,0,none⟩) (by simp only;omega) (ah 2);clear b_ gA dn fq hV mB f8 hq e7 ga aV;generalize W.setCell ⟨w.heap.size+2,0,none⟩ (ah 2)=V at*;have eF:=I (show∀c_,Kept V c_->(Kept V c_/\aU c_ (w,0)=some (ah m)/\aU c_ (w.heap.size+1,1)=some (ah (j:J))/\aU c_ ⟨g3,kJ+j*3,none⟩=some (ah ep)/\aU c_ ⟨g3,kJ+j*3+1,none⟩=some (ah fj)/\aU c_ ⟨g3,kJ+j*3+2,none⟩=some (ah iO))from λc_ k=>⟨k,(TE.kept k).cell 0,(TF.kept k).cell 1,HX3 c_ (ca.trans k)⟩);obtain⟨-,b_,dn,eU,dr,eV⟩:=eF.out V (aG _);have gA:=TE.lt;have fq:=TF.lt;have dW:=bG aj4 ca.size;have sG:=I (λw1(k:Kept V w1)=>Bd.kept k);clear Bd TE TF;go_cut [8] (λx cj=>x= .pointer (some (w.heap.size+2,0))/\Kept w cj/\aB cj (w.heap.size+2) 45 #[ah 2,dp,m,ah (j:J),ah (-1),ep,fj,iO])
 case first=>
  go_region_with (go_at_call 65;refine (Dn _ (ca.trans ?_)).mono ?_;(·exact (aG _).drew);rintro cv ch⟨rfl,bF⟩;have w7:Kept V ch:=(by (exact (aG _).drew.trans bF));have hb:=sG.out _ w7;have hV:=hb.cell;have mB:=hb.lt;have f8:=hb.frozen;have l33:=bG dW w7.size;obtain⟨-,z5,EZ,z0,fL,z2⟩:=eF.out ch w7;have l56:=bG fq w7.size;clear bF)
  all_goals
   have HF8:=I (((hb.ba 5 ep).ba 6 fj).ba 7 iO);have qq:=I ((((ca.trans w7).setCell (p:=⟨w.heap.size+2,5,none⟩) (by simp only;omega) ep).setCell (p:=⟨w.heap.size+2,6,none⟩) (by simp only;omega) fj).setCell (p:=⟨w.heap.size+2,7,none⟩) (by simp only;omega) iO);clear hb;go_wp2_with fail
   go_meet;exact⟨rfl,by first|exact qq|exact qq.drew,by have:=HF8.out;simp only[kM,lS,qg]at this;first|exact this|exact this.drew⟩
 obtain⟨rfl,c3,ga⟩:=hcut;generalize wc=mn at*;clear b_ dn gA fq eF sG Dn ca eU dr eV;obtain⟨hV,mB⟩:=ga.p;have lP1:=bG iu c3.size;go_upto_region 6 with fail
 go_region_with (go_at_call 37;refine (mg _ ?_).mono ?_;(·exact c3.drew);rintro aQ w1 a7;have ke:=I a7;obtain⟨rfl,-⟩:=a7)
 all_goals
  go_wp2_with fail
  go_end0
  exact ke
def Li(X:fD)(F:aa):Prop:=∀(v:ak)(ns:List cl)(m d dp:J)(w:ag),fg X v ns w->X.G m d->na X.l X.s m d<F->lM 6144 X.U ns<=1000000->0<=dp->dp+na X.l X.s m d<=1000000->bg 21 #[.pointer (some (X.P,0)),gZ m d,dp] w (n_ X v (hJ X.C F ns m d dp) w)
structure ig(X:fD)(v:ak)(w:ag)(v':ak)(ns:List cl)(w':ag):Prop where
 b:fg X v' ns w'
 c:lU X.P X.M v w v' w'
section
variable {X:fD} {v v':ak} {ns xL:List cl} {w w1 w2:ag} {e:Ending}
def ig.refl(h:fg X v ns w):ig X v w v ns w:=⟨h,.refl _ _ _ _⟩
def ig.kept(h:ig X v w v' ns w1)(k:Kept w1 w2):ig X v w v' ns w2:=⟨h.b.keep k,h.c.kept k⟩
def ig.step(h:ig X v w v' ns w1)(k:n_ X v' xL w1 e w2):∃v'',ig X v w v'' xL w2:=by
 obtain⟨-,u,ab,ad⟩:=k;exact⟨u,ab,h.c.trans ad⟩
def ig.post(h:ig X v w v' ns w1):n_ X v ns w (bL (bj #[])) w1:=⟨rfl,v',h.b,h.c⟩
def ig.eH{g t:aa}{cs:ho}(h:ig X v w v' ns w1)(bc:aB w g t cs)(ab:g≠X.P)(ad:g≠X.M)(ao:v.ownBlock≠some g):aB w1 g t cs:=(h.c.block g bc.lt ab ad ao).trans bc
def ig.row{B T k n:aa}{xs:dN}{u:ak}(h:ig X v w v' ns w1)(aC:w.ownsRow B T k u n xs)(hu:∀g,u.ownBlock=some g->g≠X.P/\g≠X.M/\v.ownBlock≠some g):w1.ownsRow B T k u n xs:=
 rJ (ok:=λb=>b≠X.P/\b≠X.M/\v.ownBlock≠some b) aC (λb af aA=>h.c.block b af aA.1 aA.2.1 aA.2.2) hu
end
def ahV(X:fD)(bk:gv X)(v:ak)(ns:List cl)(m d cQ dp:J)(w:ag)(h:fg X v ns w)(F:aa)(bH:Li X F)(al:X.G m cQ)(aC:na X.l X.s m cQ<F)(hp:lM 6144 X.U ns<=1000000)(ar:0<=dp)(aE:dp+na X.l X.s m cQ<=1000000):bg 39 #[.pointer (some (X.P,0)),gZ m d,aF #[ah 1,cQ],dp] w (n_ X v (hJ X.C F ns m cQ dp) w):=by
 have hN:=I (λw1(k:Kept w w1)=>(bH v ns m cQ dp w1 (h.keep k) al aC hp ar aE).mono (λe w2(aT:n_ X v (hJ X.C F ns m cQ dp) w1 e w2)=>aT.from_ k));unfold gZ at hN;have B:=h.eH;have iu:=B.lt;have aV:Kept w (((w.alloc (.cells #[m,d] 78)).alloc (.cells #[ah 1,cQ] 127)).alloc (.cells #[(),dp,m,cQ,ah (-1),(),(),()] 45)):=(((aG w).alloc _).alloc _).alloc _;obtain⟨hq,e7,ga⟩:=(aG (((w.alloc (.cells #[m,d] 78)).alloc (.cells #[ah 1,cQ] 127)).alloc (.cells #[(),dp,m,cQ,ah (-1),(),(),()] 45))).xh;unfold gZ;go_enter func39,ntmps39
 go_upto_region 3 with fail
 generalize ((w.alloc (.cells #[m,d] 78)).alloc (.cells #[ah 1,cQ] 127)).alloc (.cells #[(),dp,m,cQ,ah (-1),(),(),()] 45)=W at*;obtain⟨b_,gA⟩:=hq.p;obtain⟨dn,fq⟩:=e7.p;obtain⟨hV,mB,f8⟩:=ga.q;clear bH al aC hp aE;go_wp2_with (go_at_call 21;refine (hN _ (by (exact aV))).mono ?_;rintro aQ w1 a7;have ke:=I a7;obtain⟨rfl,-⟩:=a7)
 go_end0
 exact ke
def ahX(X:fD)(bk:gv X)(v:ak)(ns:List cl)(m d cQ dp:J)(w:ag)(h:fg X v ns w)(F:aa)(bH:Li X F)(al:∀j:aa,j<X.c.mem.length->X.G (j:J) cQ/\na X.l X.s (j:J) cQ<F/\dp+na X.l X.s (j:J) cQ<=1000000)(hp:∀i:aa,i<X.c.mem.length->lM 6144 X.U ((List.range i).foldl (λns(j:aa)=>hJ X.C F ns (j:J) cQ dp) ns)<=1000000)(ar:0<=dp):bg 39 #[.pointer (some (X.P,0)),gZ m d,aF #[ah 4,cQ],dp] w (n_ X v ((List.range X.c.mem).foldl (λns(j:aa)=>hJ X.C F ns (j:J) cQ dp) ns) w):=by
 have hN:=I (λ(i:aa)(aD:i<X.c.mem.length)(v':ak)w1(k:fg X v' ((List.range i).foldl (λns (j:aa)=>hJ X.C F ns (j:J) cQ dp) ns) w1)=>bH v' _ (i:J) cQ dp w1 k (al i aD).1 (al i aD).2.1 (hp i aD) ar (al i aD).2.2);unfold gZ at hN;have hTS:∀i:aa,(List.range (i+1)).foldl (λns(j:aa)=>hJ X.C F ns (j:J) cQ dp) ns=hJ X.C F ((List.range i).foldl (λns(j:aa)=>hJ X.C F ns (j:J) cQ dp) ns) (i:J) cQ dp:=λi=>by rw[Ts,Tm];rfl
 have Pj:=I hTS;have hm8:=bk.m8;have aN:=h.tg;have B:=h.eH;have iu:=B.lt;have aV:Kept w (((w.alloc (.cells #[m,d] 78)).alloc (.cells #[ah 4,cQ] 127)).alloc (.cells #[(),dp,m,cQ,ah (-1),(),(),()] 45)):=(((aG w).alloc _).alloc _).alloc _;obtain⟨hq,e7,ga⟩:=(aG (((w.alloc (.cells #[m,d] 78)).alloc (.cells #[ah 4,cQ] 127)).alloc (.cells #[(),dp,m,cQ,ah (-1),(),(),()] 45))).xh;unfold gZ;go_enter func39,ntmps39
 go_upto_region 3 with fail
 generalize ((w.alloc (.cells #[m,d] 78)).alloc (.cells #[ah 4,cQ] 127)).alloc (.cells #[(),dp,m,cQ,ah (-1),(),(),()] 45)=W at*;obtain⟨b_,gA⟩:=hq.p;obtain⟨dn,fq⟩:=e7.p;obtain⟨hV,mB,f8⟩:=ga.q;obtain⟨-,-,-,-,-,-,-,-,-,-,ff,ih,-,-,-,-,yS⟩:=bk.form;have AT:=(B.kept aV).cell 7;simp only[oI,yS,hL,iP,jd]at AT;have lP0:=bG iu aV.size;have HG0:=I (show ig X v w v ns W from (ig.refl h).kept aV);have sF:=I (λ(v':ak)(l:List cl)(w1:ag)(k:ig X v W v' l w1)=>k.eH e7 (by omega) (by omega) (λe=>by have:=aN.2.2 _ e;omega));have HGT:=I (λ(v':ak)(l:List cl)(w1:ag)(k:ig X v W v' l w1)=>(show ig X v w v' l w1 from⟨k.b,HG0.c.trans k.c⟩));have Dm:=I (show ig X v W v ns W from ig.refl (h.keep aV));clear bH al hp hTS b_ gA hV mB f8 hq ga yS B;generalize p2:X.c.mem.length=eE at*;obtain⟨T,bT⟩:∃T:aa->List cl,T=λi=>(List.range i).foldl (λns(j:aa)=>hJ X.C F ns (j:J) cQ dp) ns:=⟨_,rfl⟩;have QU:T 0=ns:=by rw[bT];rfl
 have Mz:∀i,(List.range i).foldl (λns(j:aa)=>hJ X.C F ns (j:J) cQ dp) ns=T i:=λi=>by rw[bT]
 simp only[Mz]at hN Pj⊢;have KV:=I QU;have Uv:=I (show (List.range X.c.mem).foldl (λns(j:aa)=>hJ X.C F ns (j:J) cQ dp) ns=T eE from by rw[bT,p2]);clear QU Mz bT p2;go_upto_region 18 with fail
 clear AT lP0 dn fq e7;go_loopw [76] (λy wr=>∃(i:aa)(v':ak),y=ah i/\i<=eE/\ig X v W v' (T i) wr) (λy _=>eE-(intOf y).toNat)
 case atStart=>exact⟨0,v,rfl,d' _,by rw[KV];exact Dm⟩
 case round=>
  obtain⟨i,v',rfl,dG,aJ⟩:=hrel;by_cases qN:i<eE
  .have db:(i:J)<eE:=by omega
   have gU:=sF.out _ _ _ aJ;obtain⟨dn,fq⟩:=gU.p;have aX:=I aJ;have fl:=I (Pj i);have ct:=I (λw1(k:Kept wr w1)=>hN i qN v' w1 (aJ.b.keep k));clear gU aJ;go_wp2_with (go_at_call 21;refine (ct _ (by (exact .refl _))).mono ?_;rintro aQ w1 a7;have ke:=I (ig.step (aX.kept (by (exact .refl _))) a7);obtain⟨rfl,-⟩:=a7)
   obtain⟨u2,tY⟩:=ke.out;have yo:=I tY;clear tY;go_roundw
   case rel=>exact⟨i+1,u2,by go_num,qN,by rw[fl];exact yo⟩
   case measure=>simp[intOf];omega
  .obtain rfl:i=eE:=by omega
   have db:¬((i:J)<i):=by omega
   have bM:=I (HGT _ _ _ aJ);clear aJ;go_wp2_with fail
   go_end0
   rw[Uv];exact bM.post
section
variable {X:fD} {m d:J}
def gv.lm(bk:gv X)(al:X.G m d):m<X.c.mem.length:=by
 rcases al with⟨e,-⟩|⟨-,ab,-⟩
 .omega
 .exact ab
def aei{x:cw}{z:J×J}(h:p' x=some z)(ar:z.1=0):x.o=7/\z.2=x.n:=by
 rcases SK h with⟨aA,rfl⟩|⟨aA,rfl⟩|⟨aA,rfl⟩|⟨aA,rfl⟩|⟨aA,rfl⟩|⟨aA,rfl⟩
 .exact⟨aA,rfl⟩
 all_goals exact absurd ar (by simp)
def gv.alw(bk:gv X)(al:X.G m d){z:J×J}(bP:z∈jy X.l X.s X.c m d)(ar:z.1=0):0<=z.2/\z.2<(CD X.c m).length:=by
 have a1:=bk.vY;obtain⟨-,-,a3,-,-,Im,-⟩:=PR bk.at_ bk.arg;have D_:=al;rcases al with⟨rfl,aE⟩|⟨m0,m1,ad,ao,aR⟩
 .obtain⟨v,q,r,aQ,a_,-⟩:=a1.own aE;unfold jy at bP;rw[aP (by decide),aQ]at bP;dsimp only at bP;rw[c7,a_,b9,JG]at bP;rcases bP with bP|⟨x,aj,bP⟩
  .cases bP
  obtain⟨aA,e⟩:=aei bP ar;have:=((a1.ok.sc.all _ _ a1.at_).node (fe a_) aj).1 aA;unfold CD;rw[aP (by decide),a3,e];exact this
 .obtain⟨sh,dK,-⟩:=a1.JF (by omega);unfold jy at bP;rw[aw (by omega),NL]at bP;rcases bP with bP|⟨j,ay,x,aj,bP⟩
  .cases bP
  have pn:=me.1 ay;have pk:=bn (l:=X.c.mem) (i:=(j:J).toNat) (by omega);obtain⟨v,q,r,aQ,a_,-⟩:=a1.t' (m:=(j:J)) (by omega) pk ad ao aR;rw[aQ]at aj;dsimp only at aj;rw[c7,a_,b9]at aj;obtain⟨aA,e⟩:=aei bP ar;have:=((a1.ok.sc.all _ _ dK).node (fe a_) aj).1 aA;have xv:=bn (l:=X.c.mem) (i:=m.toNat) (by omega);unfold CD;rw[aw (by omega),xv,b9,Im _ (fe xv),e];exact this
def gv.tR(bk:gv X)(m d:J):(jy X.l X.s X.c m d).length<=768/\tR X.C (jy X.l X.s X.c m d)<=6144:=by
 have a1:=bk.vY;exact aiJ (a1.ok.sc.small a1.mem).1 (a1.ok.sc.C0 a1.mem).1 bk.m8 m d
def gv.YS(bk:gv X)(F:aa)(ns:List cl)(m d dp:J)(aC:na X.l X.s m d<F)(al:X.G m d):lM 6144 X.U (hJ X.C F ns m d dp)<=lM 6144 X.U ns+1:=
 ad4 bk.vY.Mb (λ_ _ h=>bk.RX h) (λm d _=>(bk.tR m d).2) F ns m d dp aC al
end
def YT{K:aa}{U:List (J×J)}(ns:List cl):ns.length<=lM K U ns:=Nat.le_add_right _ _
def ahT(X:fD)(bk:gv X)(F:aa)(bH:Li X F)(v:ak)(ns:List cl)(m d dp:J)(w:ag)(h:fg X v ns w)(al:X.G m d)(r:J×J)(aC:r∈jy X.l X.s X.c m d)(hF:na X.l X.s m d<=F)(hp:lM 6144 X.U ns+yQ X.C r<=1000001)(ar:0<=dp)(aE:dp+na X.l X.s m d<=1000001):
  bg 39 #[.pointer (some (X.P,0)),gZ m d,aF #[r.1,r.2],dp] w (n_ X v (qz X.C (hJ X.C F) m dp ns r) w):=by
 obtain⟨hh,iC,kY,sr,EE⟩:=bk.vY.Mb.ref m d al r aC;have av:=YT (K:=6144) (U:=X.U) ns;have dG:=bk.alw al aC;obtain⟨k,cQ⟩:=r;dsimp only at*;unfold qz;dsimp only;by_cases et:k=0
 .subst et;rw[aP rfl];obtain⟨i0,i1⟩:=dG rfl;obtain⟨j,rfl⟩:∃j:aa,cQ=j:=⟨cQ.toNat,by omega⟩;obtain⟨⟨ep,fj,iO⟩,aj⟩:∃x,(CD X.c m)[j]?=some x:=⟨_,bn (by omega)⟩;have qH:X.C.inp m (j:J)=⟨ep,fj,iO⟩:=by
   show (CD X.c m)[(j:J).toNat]?.getD v0=_;rw[c7,aj,b9]
  rw[qH];exact ahW X bk v ns m d j dp w h (by omega) (bk.lm al) ep fj iO aj
 rw[aw et];by_cases au:k=1
 .subst au;rw[aP rfl];obtain⟨g1,g2⟩:=sr rfl;have aq:yQ X.C (1,cQ)=1:=aP (.inr (.inl rfl));exact ahV X bk v ns m d cQ dp w h F bH g1 (by omega) (by omega) ar (by omega)
 rw[aw au];by_cases bt:k=2
 .subst bt;rw[aP rfl];exact ahU X bk v ns m d cQ dp w h (by omega)
 rw[aw bt];by_cases bF:k=3
 .subst bF;rw[aP rfl];exact ahY X bk v ns m d cQ dp w h (by omega)
 rw[aw bF];obtain rfl:k=4:=by omega
 have aq:yQ X.C (4,cQ)=X.c.mem.length:=aw (by simp);rw[aq]at hp;have atO:=EE rfl;refine ahX X bk v ns m d cQ dp w h F bH (λj ay=> ?_) (λi aD=> ?_) ar
 .obtain⟨g1,g2⟩:=atO j ay;exact⟨g1,by omega,by omega⟩
 .have:=N1 (K:=6144) (U:=X.U) (g:=λns(j:aa)=>hJ X.C F ns (j:J) cQ dp) (cs:=λ_=>1) (List.range i) (λj ay ns=>by
   have pn:=me.1 ay;obtain⟨g1,g2⟩:=atO j (by show j<X.c.mem.length;omega);exact bk.YS F ns (j:J) cQ dp (by omega) g1) ns
  rw[aeZ,vG]at this;omega
def ajh(X:fD)(bk:gv X)(v:ak)(ns:List cl)(m d:J)(w:ag)(h:fg X v ns w)(al:X.G m d):bg 38 #[.pointer (some (X.P,0)),gZ m d] w (JS X m d v ns w):=by
 by_cases hm:0<=m
 .exact anU X bk v ns m d hm w h al
 .obtain rfl:m= -1:=by have:=bk.G3 al;omega
  exact anV X bk v ns d w h al
def gQ.l4{X:fD}{v:ak}{ns:List cl}{w w1:ag}(h:gQ X v ns w w1):ig X v w v ns w1:=⟨h.b,h.c⟩
def ig.trans{X:fD}{v v1 v2:ak}{AP Sl:List cl}{w w1 w2:ag}(h:ig X v w v1 AP w1)(k:ig X v1 w1 v2 Sl w2):ig X v w v2 Sl w2:=⟨k.b,h.c.trans k.c⟩
def aps(X:fD)(bk:gv X)(v:ak)(ns:List cl)(m d dp:J)(w:ag)(h:fg X v ns w)(al:X.G m d)(av:ns.length<=1000000)(aT:gf ns m d=true):
  bg 21 #[.pointer (some (X.P,0)),gZ m d,dp] w (n_ X v (ns++[⟨5,dp,m,d,-1,X.C.val m d⟩]) w):=by
 have h0:=I (λw1(k:fg X v ns w1)=>Qy X bk v ns m d w1 k al);have mi:=I (λw1(k:fg X v ns w1)=>abL X bk v ns m d w1 k av);have mg:=I (λw1(k:fg X v ns w1)=>Lw X bk v ns (⟨5,dp,m,d,-1,X.C.val m d⟩) w1 k (by omega));unfold pW fD.fd DS at h0;unfold fo at mi;rw[aT]at mi;have p5:X.C.val m d=(iE X.l X.s X.c m d).v:=rfl;have RG:X.C.nS m d=(iE X.l X.s X.c m d).cf:=rfl;rw[p5]at mg⊢;unfold tt at mg;generalize iE X.l X.s X.c m d=R at*;obtain⟨⟨cS,eo,di⟩,cf,rc,atU,rd,atV⟩:=R;dsimp only at*;have aN:=h.tg;have aV:Kept w (w.alloc (.cells #[m,d] 78)):=(aG w).alloc _;have fH:=aB.new w 78 #[m,d];clear p5 RG aT;unfold gZ at h0⊢;go_enter func21,ntmps21
 go_upto_region 1 with fail
 have Kr:ig X v w v ns (w.alloc (.cells #[m,d] 78)):=(ig.refl h).kept aV;generalize w.alloc (.cells #[m,d] 78)=W at*;obtain⟨b4,gz⟩:=fH.p;have TV:=I (λ(v':ak)(l:List cl)(w1:ag)(k:ig X v W v' l w1)=>k.eH fH (by omega) (by omega) (λe=>by have:=aN.2.2 _ e;omega));go_upto_region 2 with (go_at_call 35;refine (h0 _ Kr.b).mono ?_;rintro aQ w1⟨rfl,fU,dE⟩)
 have vK:ig X v W v ns w1:=⟨fU,dE⟩;have e7:=aB.new w1 120 #[cS,eo,di,cf];have tz:=vK.kept ((aG w1).alloc (.cells #[cS,eo,di,cf] 120));have uT:=fU.tg;clear fU dE b4 gz vK;generalize hg6:w1.heap.size=g6 at*;generalize w1.alloc (.cells #[cS,eo,di,cf] 120)=V at*;have ee:=TV.out _ _ _ tz;obtain⟨b4,gz⟩:=ee.p;have iu:=(tz.b).tg.1;go_upto_region 2 with fail
 go_cut [19] (λx cj=>x=bR true/\Kept V cj)
 case first=>
  go_region_with (go_at_call 36;refine (mi _ ?_).mono ?_;(·exact tz.b.keep (by (exact (aG _).drew)));rintro a_ w2⟨rfl,bt⟩)
  all_goals
   have wu:Kept V w2:=by (exact (aG _).drew.trans bt)
   go_wp2_with fail
   go_meet;exact⟨rfl,wu⟩
 obtain⟨rfl,wu⟩:=hcut;have Hx:=tz.kept wu;have jV:=ee.kept wu;have gU:=e7.kept wu;have lP2:=(Hx.b).tg.1;clear wu b4 gz iu;generalize wc=mn at*;obtain⟨b4,gz⟩:=jV.p;obtain⟨dn,fq⟩:=gU.p;have z0:=aS.cell gz (b4 0);have fL:=aS.cell gz (b4 1);have eU:=aS.cell fq (dn 0);have dr:=aS.cell fq (dn 1);have eV:=aS.cell fq (dn 2);have jP:=aS.cell fq (dn 3);go_upto_region 3 with fail
 clear b4 dn gz fq;refine wH 11 (by kernel_rfl) (by kernel_rfl) ?_;simp only[sz,q0,vE,rS]
 repeat (go_big_quiet_step (fail))
 refine f' ?_;rintro c4⟨⟨cj,eX⟩,WZ⟩;obtain rfl:c4=cj:=WZ;have yf:=Hx.kept eX;clear z0 fL eU dr eV jP;go_wp2_with (go_at_call 37;refine (mg _ yf.b).mono ?_;rintro cv ch a7;have ke:=I ((Kr.trans yf).step a7);obtain⟨rfl,-⟩:=a7)
 obtain⟨u,hu⟩:=ke.out;have pa:=I hu;clear hu;go_end0
 exact pa.post
def aiK{C:q2}{l:List (J×J)}{i:aa}{r:J×J}(h:l[i]?=some r):tR C (l.take i)+yQ C r<=tR C l:=by
 induction l generalizing i with
 |nil=>simp at h
 |cons x l bO=>
  cases i with
  |zero=>
   rw[iP]at h;obtain rfl:=cJ h;unfold tR;rw[q0,Kh,List.sum_nil,zE,Dd];omega
  |succ i=>
   rw[jd]at h;have:=bO h;unfold tR at this⊢;rw[sz,zE,zE,Dd,Dd];omega
def ajm{α β:Type}{g:β->α->β}{l:List α}{i:aa}{x:α}(h:l[i]?=some x)(b:β):(l.take (i+1)).foldl g b=g ((l.take i).foldl g b) x:=by
 rw[qZ,h,zA,Tm];rfl
def agD{X:fD}{v:ak}{AP:List cl}{c4 ch:ag}{e:Ending}{g t:aa}{cs:ho}(a7:n_ X v AP c4 e ch)(bc:aB c4 g t cs)(ab:g≠X.P)(ad:g≠X.M)(ao:v.ownBlock≠some g):e=bL (bj #[])/\∃v1,ig X v c4 v1 AP ch/\aB ch g t cs/\v1.ownBlock≠some g:=by
 obtain⟨he,v1,af,aq⟩:=a7;refine⟨he,v1,⟨af,aq⟩,(aq.block _ bc.lt ab ad ao).trans bc,λe=> ?_⟩;rcases aq.own with a_|a_
 .exact ao (a_▸e)
 .have:=a_ _ e;have:=bc.lt;omega
def apr(X:fD)(bk:gv X)(F:aa)(bH:Li X F)(v:ak)(ns:List cl)(m d dp:J)(w:ag)(h:fg X v ns w)(al:X.G m d)(av:ns.length<=1000000)(aT:gf ns m d=false)(aC:na X.l X.s m d<=F)(hp:lM 6144 X.U ns<=1000000)(ar:0<=dp)(aE:dp+na X.l X.s m d<=1000000):
  bg 21 #[.pointer (some (X.P,0)),gZ m d,dp] w (n_ X v ((jy X.l X.s X.c m d).foldl (qz X.C (hJ X.C F) m (dp+1)) (ns++[⟨1,dp,m,d,X.C.nS m d,X.C.val m d⟩])) w):=by
 have hHG:=bk.vY.Mb;have xz:=ad3 (K:=6144) (U:=X.U) (ns:=ns) (n:=⟨1,dp,m,d,X.C.nS m d,X.C.val m d⟩) (bk.RX al) aT rfl;obtain⟨dE,jj⟩:=bk.tR m d;have Dj:Hid (∀(i:aa)(r:J×J),(jy X.l X.s X.c m d)[i]?=some r->∀(v':ak)(w1:ag),fg X v' (((jy X.l X.s X.c m d).take i).foldl (qz X.C (hJ X.C F) m (dp+1)) (ns++[⟨1,dp,m,d,X.C.nS m d,X.C.val m d⟩])) w1->
   bg 39 #[.pointer (some (X.P,0)),aF #[m,d],aF #[r.1,r.2],ah (dp+1)] w1 (n_ X v' (((jy X.l X.s X.c m d).take (i+1)).foldl (qz X.C (hJ X.C F) m (dp+1)) (ns++[⟨1,dp,m,d,X.C.nS m d,X.C.val m d⟩])) w1)):=I (λi r aD v' w1 k=>by
  have hpf:=N1 (K:=6144) (U:=X.U) (g:=qz X.C (hJ X.C F) m (dp+1)) (cs:=yQ X.C) ((jy X.l X.s X.c m d).take i) (λr u_ xL=>ad2 hHG (λns m d dp a b=>bk.YS F ns m d dp a b) al aC (dp+1) (List.mem_of_mem_take u_) xL) (ns++[⟨1,dp,m,d,X.C.nS m d,X.C.val m d⟩]);have Cd:=aiK (C:=X.C) aD;unfold tR at Cd jj;rw[ajm aD];exact ahT X bk F bH v' _ m d (dp+1) w1 k al r (fe aD) aC (by omega) (by omega) (by omega))
 obtain⟨fs,Gb⟩:∃l,l=jy X.l X.s X.c m d:=⟨_,rfl⟩;rw[<-Gb]at Dj dE⊢;have Bq:=I (λ(v':ak)(xL:List cl)w1(k:fg X v' xL w1)=>ajh X bk v' xL m d w1 k al);unfold JS gZ at Bq;rw[<-Gb]at Bq;obtain⟨AP,Xl⟩:∃l,l=ns++[⟨1,dp,m,d,X.C.nS m d,X.C.val m d⟩]:=⟨_,rfl⟩;rw[<-Xl]at Dj⊢;obtain⟨T,bT⟩:∃T:aa->List cl,T=λi=>(fs.take i).foldl (qz X.C (hJ X.C F) m (dp+1)) AP:=⟨_,rfl⟩;have Mz:∀i,(fs.take i).foldl (qz X.C (hJ X.C F) m (dp+1)) AP=T i:=λi=>by rw[bT]
 simp only[Mz]at Dj;have KV:=I (show T 0=AP by rw[bT];rfl);have Uv:=I (show fs.foldl (qz X.C (hJ X.C F) m (dp+1)) AP=T fs by rw[bT];simp only[x3]);rw[Uv];have Q9:dp+1<=9223372036854775807:=by omega
 have zR:=I Xl;clear Gb Mz bT Xl xz jj hHG bH hp aC aE;have h0:=I (λw1(k:fg X v ns w1)=>Qy X bk v ns m d w1 k al);have mi:=I (λw1(k:fg X v ns w1)=>abL X bk v ns m d w1 k av);have mg:=I (λw1(k:fg X v ns w1)=>Lw X bk v ns (⟨1,dp,m,d,X.C.nS m d,X.C.val m d⟩) w1 k (by omega));unfold pW fD.fd DS at h0;unfold fo at mi;rw[aT]at mi;have p5:X.C.val m d=(iE X.l X.s X.c m d).v:=rfl;have RG:X.C.nS m d=(iE X.l X.s X.c m d).cf:=rfl;rw[p5,RG]at mg zR;unfold tt at mg;generalize iE X.l X.s X.c m d=R at*;obtain⟨⟨cS,eo,di⟩,cf,rc,atU,rd,atV⟩:=R;dsimp only at*;have aN:=h.tg;have aV:Kept w (w.alloc (.cells #[m,d] 78)):=(aG w).alloc _;have fH:=aB.new w 78 #[m,d];clear p5 RG aT;unfold gZ at h0⊢;go_enter func21,ntmps21
 go_upto_region 1 with fail
 have Kr:ig X v w v ns (w.alloc (.cells #[m,d] 78)):=(ig.refl h).kept aV;generalize w.alloc (.cells #[m,d] 78)=W at*;obtain⟨b4,gz⟩:=fH.p;have TV:=I (λ(v':ak)(l:List cl)(w1:ag)(k:ig X v W v' l w1)=>k.eH fH (by omega) (by omega) (λe=>by have:=aN.2.2 _ e;omega));go_upto_region 2 with (go_at_call 35;refine (h0 _ Kr.b).mono ?_;rintro aQ w1⟨rfl,fU,dE⟩)
 have vK:ig X v W v ns w1:=⟨fU,dE⟩;have e7:=aB.new w1 120 #[cS,eo,di,cf];have tz:=vK.kept ((aG w1).alloc (.cells #[cS,eo,di,cf] 120));have uT:=fU.tg;clear fU dE b4 gz vK;generalize hg6:w1.heap.size=g6 at*;generalize w1.alloc (.cells #[cS,eo,di,cf] 120)=V at*;have ee:=TV.out _ _ _ tz;obtain⟨b4,gz⟩:=ee.p;have iu:=(tz.b).tg.1;go_upto_region 2 with fail
 go_cut [19] (λx cj=>x=bR false/\Kept V cj)
 case first=>
  go_region_with (go_at_call 36;refine (mi _ ?_).mono ?_;(·exact tz.b.keep (by (exact (aG _).drew)));rintro a_ w2⟨rfl,bt⟩)
  all_goals
   have wu:Kept V w2:=by (exact (aG _).drew.trans bt)
   go_wp2_with fail
   go_meet;exact⟨rfl,wu⟩
 obtain⟨rfl,wu⟩:=hcut;have Hx:=tz.kept wu;have jV:=ee.kept wu;have gU:=e7.kept wu;have lP2:=(Hx.b).tg.1;clear wu b4 gz iu;generalize wc=mn at*;obtain⟨b4,gz⟩:=jV.p;obtain⟨dn,fq⟩:=gU.p;have z0:=aS.cell gz (b4 0);have fL:=aS.cell gz (b4 1);have eU:=aS.cell fq (dn 0);have dr:=aS.cell fq (dn 1);have eV:=aS.cell fq (dn 2);have jP:=aS.cell fq (dn 3);go_upto_region 4 with fail
 clear b4 dn gz fq;refine wH 13 (by kernel_rfl) (by kernel_rfl) ?_;simp only[sz,q0,vE,rS]
 repeat (go_big_quiet_step (fail))
 refine f' ?_;rintro c4⟨⟨cj,eX⟩,WZ⟩;obtain rfl:c4=cj:=WZ;have yf:=Hx.kept eX;have b45:=jV.kept eX;have RI:=b45.lt;clear z0 fL eU dr eV jP lP2;have HG5:=I (Kr.trans yf);have af6:=I yf.b;have akC:v.ownBlock≠some w.heap.size:=λe=>by have:=aN.2.2 _ e;omega
 have hPn:w.heap.size≠X.P:=by omega
 have hMn:w.heap.size≠X.M:=by omega
 clear tz Hx yf ee jV gU e7;go_wp2_with (first
  |(go_at_call 37;refine (mg _ af6).mono ?_;rintro cv ch a7;rw[<-zR]at a7;obtain⟨rfl,v1,zL,FO,si⟩:=agD a7 b45 hPn hMn akC;have b4:=FO.cell;have gz:=FO.lt;have hl3:=zL.b.tg;have e3:=I zL.b;have HG6:=I (HG5.trans zL);have afT:=I FO;clear a7 zL FO)
  |(go_at_call 38;refine (Bq v1 AP _ e3).mono ?_;rintro ko dc⟨u,rfl,zb,RC⟩;obtain⟨gI,eg,rfl,-⟩:=id (cb.jx m' zb)))
 have FO:=afT.out;have b46:=RC.l4.eH FO (by omega) (by omega) si;have HUX:=I (λ(v':ak)(l:List cl)(wr:ag)(k:ig X v1 dc v' l wr)=>cb.jx m' (k.row zb (λg e=>by
  have ab:=(iF zb g e).1;exact⟨by omega,by omega,λa_=>by have:=hl3.2.2 _ a_;omega⟩)))
 have j4:=I (λ(v':ak)(l:List cl)(wr:ag)(k:ig X v1 dc v' l wr)=>k.eH b46 (by omega) (by omega) si);have zW:=I RC.l4;clear b4 gz FO b46 zb RC;go_loopw [50] (λy wr=>∃(i:aa)(v':ak),y=ah i/\i<=fs.length/\ig X v1 dc v' (T i) wr) (λy _=>fs.length-(intOf y).toNat)
 case atStart=>exact⟨0,v1,rfl,d' _,by rw[KV];exact ig.refl zW.b⟩
 case round=>
  obtain⟨i,v',rfl,dG,aJ⟩:=hrel;by_cases qN:i<fs.length
  .have db:(i:J)<fs.length:=by omega
   have kG:fs[i]?=some (fs[i]'qN):=bn _;have ct:=I (λw1(k:Kept wr w1)=>Dj i _ kG v' w1 (aJ.b.keep k));obtain⟨uA',uc',he,hux⟩:=HUX.out _ _ _ aJ
   cases he;obtain⟨rO,wF,rfl,hub,huc⟩:=hux (by omega);have ef:=huc i _ kG;generalize fs[i]'qN=r at*;obtain⟨hh,iC⟩:=r;have bX:=ef 0 _ rfl;have bQ:=ef 1 _ rfl;rw[lT]at bX;have ee:=j4.out _ _ _ aJ;obtain⟨b4,gz⟩:=ee.p;have aX:=I aJ;dsimp only at*;clear ee aJ hux huc ef kG;go_wp2_with (go_at_call 39;refine (ct _ (by (exact (aG _).aZ))).mono ?_;rintro aQ w1 a7;have ke:=I (ig.step (aX.kept (by (exact (aG _).aZ))) a7);obtain⟨rfl,-⟩:=a7)
   obtain⟨u2,tY⟩:=ke.out;have yo:=I tY;clear tY;go_roundw
   case rel=>exact⟨i+1,u2,by go_num,qN,yo⟩
   case measure=>simp[intOf];omega
  .obtain rfl:i=fs.length:=by omega
   have db:¬((fs:J)<fs.length):=by omega
   have bM:=I (HG6.trans (zW.trans aJ));clear aJ;go_wp2_with fail
   go_end0
   exact bM.post
theorem aeW(X:fD)(bk:gv X):∀F,Li X F
 |0=>λ_ _ _ _ _ _ _ _ h=>absurd h (uo _)
 |F+1=>λv ns m d dp w h al aC hp ar aE=>by
  have av:=YT (K:=6144) (U:=X.U) ns;rw[hJ];by_cases aT:gf ns m d=true
  .rw[aP aT];exact aps X bk v ns m d dp w h al (by omega) aT
  .rw[aw aT];exact apr X bk F (aeW X bk F) v ns m d dp w h al (by omega) (by simpa using aT) (by omega) hp ar aE
noncomputable def oc(l:cO)(s:cq)(c:gl)(d:J):List cl:=hJ (yR l s c) (na l s (-1) d+1) [] (-1) d 0
def EO(l:cO)(sc:J):cq:=l.sc[sc.toNat]?.getD j'
def VU(l:cO)(sc:J)(c:gl)(d:J)(w:ag)(e:Ending)(w':ag):Prop:=
 ((eD l sc c d).c≠0->∃a b f:J,e=bL (bj #[bf,aF #[ah (eD l sc c d).c,a,b,f]])/\lV (eD l sc c d).c (eD l sc c d).m (eD l sc c d).d (eD l sc c d).r a b f)/\
 ((eD l sc c d).c=0->∃u,e=bL (bj #[u,aF #[(),(),(),()]])/\hP w' qe 8 u (oc l (EO l sc) c d))/\Kept w w'
def aek{X:fD}(bk:gv X)(d:J):na X.l X.s (-1) d<=30:=by
 have a1:=bk.vY;have ab:=(a1.ok.sc.small a1.mem).2;have ad:=(a1.ok.sc.C0 a1.mem).2;have ao:=St (BU X.s.ds X.s.rs) (λl av=>Ak av) a1.sp.ac;have aR:(ox (gV X.s.ds X.s.rs)).idxOf d<=(ox (gV X.s.ds X.s.rs)).length:=List.idxOf_le_length;unfold na;rw[aP (by decide)];omega
def apq(X:fD)(bk:gv X)(v:ak)(w:ag)(h:fg X v [] w):bg 21 #[.pointer (some (X.P,0)),gZ (-1) X.d0,()] w (n_ X v (oc X.l X.s X.c X.d0) w):=by
 have aC:=aek bk X.d0;have hu:=bk.S3;refine aeW X bk (na X.l X.s (-1) X.d0+1) v [] (-1) X.d0 0 w h (.inl ⟨rfl,.inl rfl⟩) (Kd _) ?_ (wI _) (by omega);unfold lM AZ;have:=nX (λp:J×J=> !gf [] p.1 p.2) X.U;simp only[sB];omega
def JI(w:ag)(l:cO)(i:aa)(s:cq)(c:gl)(d:J)(b:OL):fD:=⟨w,l,i,s,c,d,b,w.heap.size+1,w.heap.size,w.heap.size+2⟩
def adq{w:ag}{l:cO}{i:aa}{s:cq}{c:gl}{d:J}{E T S mj M:ak}(aD:l.sc[i]?=some s)(he:(eD l (i:J) c d).c=0)(bE:h1 w (aF #[E,T,S]) l)(b6:ft w mj c.ins)(bN:kh w M c.mem)(fB:c.ins.length<=9223372036854775807)(h3:Mon w):
  gv (JI w l i s c d ⟨E,T,S,i,c.d,mj,M⟩):=by
 have bD:=IK he;obtain⟨-,-,-,-,eI,-⟩:=PR aD bD;exact⟨aD,bD,he,bE,b6,bN,fB,h3,rfl,rfl,eI,pG _,bB _,Nat.succ_ne_self _,Kd _,Nat.lt_succ_of_lt (Kd _)⟩
def adp{w:ag}{l:cO}{i:aa}{s:cq}{c:gl}{d:J}{b:OL}:fg (JI w l i s c d b) bf [] ((w.alloc (.map #[] 0)).alloc (.cells (oI b w bf) 75)):=by
 have hm:=(lY.made 78 w).kept ((aG _).alloc (.cells (oI b w bf) 75));have bc:=aB.new (w.alloc (.map #[] 0)) 75 (oI b w bf);rw[qf]at bc;exact⟨((aG w).alloc _).alloc _,bc,cb.nil _ _ _,⟨[],Tv,(λ_ h=>by cases h),_,hm,λm d=>by simp⟩,by show w.heap.size+2<=_;simp⟩
def N5{w:ag}{B T k n:aa}{v:ak}{xs:dN}(h:w.ownsRow B T k v n xs){p:Addr}(hp:p.block<B)(u:ak):(w.setCell p u).ownsRow B T k v n xs:=
 rJ (ok:=λb=>b≠p.block) h (λb _ bU=>jQ w p u b bU) (λb af e=>by have:=(iF h b af).1;omega)
def Qz(cm gX hn:ak)(l:cO)(sc d:J)(c:gl)(w:ag)(bE:h1 w cm l)(b6:ft w gX c.ins)(bN:kh w hn c.mem)(fB:c.ins.length<=9223372036854775807)(h3:Mon w):
  bg 7 #[cm,sc,aF #[c.d,gX,hn],d] w (VU l sc c d w):=by
 have cW:=I (λw1(h:Kept w w1)=>F2 cm gX hn l sc d c w1 (bE.kept h) (b6.kept h) (bN.kept h) fB (h3.kept h));unfold BW at cW;have bS:Hid ((eD l sc c d).c=0->∃(i:aa)(s:cq),sc=i/\l.sc[i]?=some s/\EO l sc=s):=I (λar=>by
  obtain⟨ab,⟨⟨ad,V'⟩,ao⟩,aR⟩:=FK (IK ar);obtain⟨i,rfl⟩:∃i:aa,sc=i:=⟨sc.toNat,by omega⟩;have al:=bn (l:=l.sc) (i:=i) (by omega);exact⟨i,_,rfl,al,by unfold EO;rw[c7,al,b9]⟩)
 have Fk:=I (λw1(h:Kept w w1)=>bb (bE.kept h) (bb (b6.kept h) (bb (bN.kept h) (h3.kept h))));unfold VU;obtain⟨R,aJ⟩:∃R,R=eD l sc c d:=⟨_,rfl⟩;rw[<-aJ]at cW bS⊢;have aX:=I aJ;obtain⟨⟨ep,fj,iO⟩,lu,cF,em,xm,r_⟩:=R;dsimp only at cW bS⊢;obtain⟨dw,cM,cH,rfl,ar,ab,ad⟩:=bE;obtain⟨c5,eW,rfl,-⟩:=ar;obtain⟨cV,cX,rfl,-⟩:=ab;obtain⟨hM,fJ,rfl,-⟩:=ad;obtain⟨eh,fR,rfl,-⟩:=b6;obtain⟨ff,ih,rfl,-⟩:=bN;obtain⟨dt,ins,mem⟩:=c;dsimp only at*;have vO:=I fB;generalize uX:l.bs.length=dS at*;generalize wb:l.tb.length=dd at*;generalize ot:l.sc.length=fO at*;generalize s7:ins.length=cC at*;generalize p2:mem.length=eE at*;have q6:=I s7;clear aJ h3 fB uX wb ot s7 p2;go_enter func7,ntmps7
 go_upto_region 1 with fail
 generalize aL:((w.alloc _).alloc _).alloc _=W at*;obtain⟨aV,fH,e7,iw⟩:=Kept.cv aL;clear aL;have e8:=I aV;obtain⟨b4,gz⟩:=fH.p;obtain⟨dn,fq⟩:=e7.p;have hs9:w.heap.size+1+1<W:=iw.lt;go_upto_region 2 with (go_at_call 6;refine (cW _ e8).mono ?_;rintro aQ w1⟨a,b,f,rfl,jn,au⟩;have sL:=I jn;clear jn)
 generalize aL:(w1.alloc _).alloc _=V at*;obtain⟨hz,yw,Ia⟩:=Kept.a_ aL;clear aL;have du:=au.trans hz;have rA:=au.size;clear b4 gz dn fq aV;clear hz;generalize w1.heap.size=g1 at*;have kl:=iw.kept du;have jV:=fH.kept du;have U_:=e7.kept du;have jG:=I (e8.trans du);obtain⟨a_,m2⟩:=Ia.p;clear fH e7 iw yw du au;by_cases aq:cF=0
 case neg=>
  have jv:(cF !=0)=true:=by simpa using aq
  have ct:=I aq;have cE:=I ((((kl.ba 0 cF).ba 1 a).ba 2 b).ba 3 f).cell;have wU:=I (show Kept w ((((V.setCell ⟨w.heap.size+1+1,0,none⟩ cF).setCell ⟨w.heap.size+1+1,1,none⟩ a).setCell ⟨w.heap.size+1+1,2,none⟩ b).setCell ⟨w.heap.size+1+1,3,none⟩ f)from by have:=jG.out;exact this.sc (by omega)|>.sc (by omega)|>.sc (by omega)|>.sc (by omega));obtain⟨ri,xG,f9⟩:=kl.q;clear aq kl jV U_ Ia;go_upto_region 3 with fail
  go_region
  all_goals
   go_wp2_with fail
   have e5:=cE.out;exact bI (v:=bj #[bf,aF #[cF,a,b,f]]) (by simp[results,results7,go_sem,e5]) rfl ⟨λ_=>⟨a,b,f,rfl,sL⟩,λh=>absurd h ct,by first|exact wU|exact wU.drew⟩
 subst aq;obtain⟨rfl,rfl,rfl⟩:=sL.1 rfl;obtain⟨i,s,rfl,aD,tX⟩:=bS.out rfl;obtain⟨bd,a8,dI,dk⟩:=Fk.out V jG;have ab6:=adq aD (by rw[<-aX]) bd a8 dI (by rw[q6];exact vO) dk;have wi:=apq _ ab6 _ _ adp;have xr:=adp (w:=V) (l:=l) (i:=i) (s:=s) (c:=⟨dt,ins,mem⟩) (d:=d) (b:=⟨ae c5 dS eW,ae cV dd cX,ae hM fO fJ,i,dt,ae eh cC fR,ae ff eE ih⟩);have HSP:=I tX;have hN:=I wi;have yg:=I xr;unfold gZ oI at hN;dsimp only[JI]at hN;have Xg:=run_makeMap (P:=prog) 71 V;obtain⟨b4,gz⟩:=jV.p;obtain⟨dn,fq⟩:=U_.p;have asI:=kl.lt;have uy:=I (λv' xL ch(k:ig (JI V l i s ⟨dt,ins,mem⟩ d ⟨ae c5 dS eW,ae cV dd cX,ae hM fO fJ,i,dt,ae eh cC fR,ae ff eE ih⟩) bf ((V.alloc (.map #[] 0)).alloc (.cells (oI ⟨ae c5 dS eW,ae cV dd cX,ae hM fO fJ,i,dt,ae eh cC fR,ae ff eE ih⟩ V bf) 75)) v' xL ch)=>k.eH (((kl.alloc _).alloc _)) (by show w.heap.size+2≠V.heap.size+1;omega) (by show w.heap.size+2≠V.heap.size;omega) (λe=>by cases e));have aN:=xr.tg;clear kl jV U_ wi xr Ia ab6 aD tX bd a8 dI dk;go_upto_region 5 with fail
 clear Xg b4 gz dn fq a_ m2;generalize oh:oc l s ⟨dt,ins,mem⟩ d=yr at*;have oE:=I oh;have K1:Hid (∀(dq:gu)(dI:aa)ch,fg (JI V l i s ⟨dt,ins,mem⟩ d ⟨ae c5 dS eW,ae cV dd cX,ae hM fO fJ,i,dt,ae eh cC fR,ae ff eE ih⟩) (ae dq yr dI) yr ch->hP ((((ch.setCell ⟨w.heap.size+1+1,0,none⟩ ()).setCell ⟨w.heap.size+1+1,1,none⟩ ()).setCell ⟨w.heap.size+1+1,2,none⟩ ()).setCell ⟨w.heap.size+1+1,3,none⟩ ()) qe 8 (ae dq yr dI) yr/\
   Kept w ((((ch.setCell ⟨w.heap.size+1+1,0,none⟩ ()).setCell ⟨w.heap.size+1+1,1,none⟩ ()).setCell ⟨w.heap.size+1+1,2,none⟩ ()).setCell ⟨w.heap.size+1+1,3,none⟩ ())):=I (λdq dI ch qF=>⟨cb.jx ZJ (N5 (N5 (N5 (N5 qF.row (by show w.heap.size+1+1<V+2;omega) _) (by show w.heap.size+1+1<V+2;omega) _) (by show w.heap.size+1+1<V+2;omega) _) (by show w.heap.size+1+1<V+2;omega) _),by
    have M4:Kept w ch:=jG.trans qF.et
    exact M4.sc (by omega)|>.sc (by omega)|>.sc (by omega)|>.sc (by omega)⟩)
 clear oh;go_wp2_with (go_at_call 21;refine hN.mono ?_;rintro cv ch⟨rfl,v3,qF,uQ⟩;have tN:=uy.out _ _ _ ⟨qF,uQ⟩;obtain⟨dq,dI,rfl⟩:=qF.form;have B:=qF.eH;unfold oI at B;dsimp only[JI]at B;have dX:=B.cell;have iu:=B.lt;have mh:=I qF;have cE:=I ((((tN.ba 0 ()).ba 1 ()).ba 2 ()).ba 3 ()).cell;have ri:=tN.cell;have xG:=tN.lt;have f9:=tN.frozen;clear qF uQ B tN)
 have e5:=cE.out;obtain⟨akQ,Rl⟩:=K1.out _ _ _ mh;exact bI (v:=bj #[ae dq yr dI,aF #[(),(),(),()]]) (by simp[results,results7,go_sem,e5]) rfl ⟨⟨_,rfl,by rw[HSP,oE];exact akQ⟩,Rl⟩
section
open Go.RowKit Go.Sort Go.Lib
abbrev EN(cc:aW):aW:=cc.mergeSort λx y=>decide (x<=y)
def aeL(v:ak)(B:aa)(cc:aW)(w:ag)(e:Ending)(w':ag):Prop:=e=bL (bj #[])/\dj w' B v (EN cc)/\w.grownBy w' v.ownBlock
def abx(v:ak)(B:aa)(cc:aW)(w:ag)(e:Ending)(w':ag):Prop:=∃u,e=bL u/\dj w' B u (Lib.compact cc)/\u.ownBlock=v.ownBlock/\w.grownBy w' v.ownBlock
def abY(w:ag)(r:Option aa):w.grownBy w r:=⟨rfl,rfl,rfl,bB _,λ_ _ _=>rfl⟩
def aoY(v:ak)(B:aa)(cc:aW)(w:ag)(h:dj w B v cc)(av:cc.length<4611686018427387904):bg 23 #[v] w (aeL v B cc w):=by
 rcases h.2 with⟨rfl,bP⟩|⟨g,cap,cur,rfl,bc,af,ab,ad,ao,aR⟩
 .obtain rfl:cc=[]:=oC.1 bP;exact (Tryz.slices_Sort_int_none none 0 w).mono λe w'⟨he,hw⟩=>⟨he,by rw[hw,show EN []=[]from List.mergeSort_nil];exact qh _ _ _ _,by rw[hw];exact abY _ _⟩
 .rw[jD]at ao aR;refine (Tryz.slices_Sort_int g 0 cap cc w (JL af aR) (nW.1 af).1 av).mono λe w'⟨he,n,os,hw⟩=>⟨he,?_,?_⟩
  .have c9:=JM (n:=n) (os:=os) (EN cc).toArray af;rw[<-hw]at c9;have Gt:(EN cc).length=cc.length:=Ou _;have bw:=Oe cur (EN cc) (by omega);have bP:Value.slice (some (g,0)) cc cap= .slice (some (g,0)) (EN cc).length cap:=by rw[Gt]
   refine⟨by simp,.inr ⟨g,cap,_,bP,bc,c9,by omega,ad,by simp[putCells,ao],?_⟩⟩;rw[jD];exact bw
  .rw[hw];exact Sy _
def abt(cc:aW):(Lib.compact cc).length<=cc.length:=by
 unfold Lib.compact compactUpTo;rw[er];have h:=nX (keeps cc.toArray) (List.range cc);rw[vG]at h;exact h
def aix(v:ak)(B:aa)(cc:aW)(w:ag)(h:dj w B v cc):bg 24 #[v] w (abx v B cc w):=by
 rcases h.2 with⟨rfl,bP⟩|⟨g,cap,cur,rfl,bc,af,ab,ad,ao,aR⟩
 .obtain rfl:cc=[]:=oC.1 bP;have aH:Lib.compact ([]:aW)=[]:=oC.1 (Nat.le_zero.1 (abt []));exact (Tryz.slices_Compact_int_empty none 0 w).mono λe w'⟨he,hw⟩=>⟨_,he,by rw[hw,aH];exact qh _ _ _ _,rfl,by rw[hw];exact abY _ _⟩
 .rw[jD]at ao aR;have hm:Go.maxLen<=9223372036854775807:=by unfold Go.maxLen;omega
  have av:=abt cc;refine (Tryz.slices_Compact_int g 0 cap cc w (JL af aR) (by omega) ab).mono λe w'⟨he,q,hw⟩=>⟨_,he,?_,rfl,?_⟩
  .have bW:=JM (n:=q) (os:=#[]) (Lib.compact cc++List.replicate (cc.length-(Lib.compact cc).length) 0).toArray af;rw[grow_empty,<-hw]at bW;have bw:=Oe cur (Lib.compact cc++List.replicate (cc.length-(Lib.compact cc).length) 0) (by simp;omega);refine⟨by simp,.inr ⟨g,cap,_,rfl,bc,bW,by omega,ad,by simp[putCells,ao],?_⟩⟩;have eL:=congrArg (List.take (Lib.compact cc).length) bw;rw[Tu,x5 (by simp),<-E5,List.take_left]at eL;rw[jD];exact eL
  .rw[hw];have bt:=Sy (w:=w) (g:=g) (n:=q) (os:=#[]) (Lib.compact cc++List.replicate (cc.length-(Lib.compact cc).length) 0).toArray;rw[grow_empty]at bt;exact bt
def S5(ns:List cl)(w:ag)(e:Ending)(w':ag):Prop:=∃u1 u2,e=bL (bj #[u1,u2])/\gw w' u1 (e_ (pA ns))/\gw w' u2 (e_ (pw ns))/\Kept w w'
def anz{ns:List cl}{i:aa}{x:cl}(h:ns[i]?=some x):pA (ns.take (i+1))=pA (ns.take i)++(if x.k=1/\x.m= -1 then [x.cf]else [])/\pw (ns.take (i+1))=pw (ns.take i)++(if x.k=1/\0<=x.m then [x.cf]else []):=by
 unfold pA pw;rw[qZ,h,zA,x8,k6,x8,k6];constructor
 .by_cases aT:x.k=1/\x.m= -1<;>simp[aT]
 .by_cases aT:x.k=1/\0<=x.m<;>simp[aT]
def afh(ns:List cl)(i:aa):(pA (ns.take i)).length<=i/\(pw (ns.take i)).length<=i:=by
 unfold pA pw;rw[er,er];have ab:=nX (λn:cl=>decide (n.k=1/\n.m= -1)) (ns.take i);have ad:=nX (λn:cl=>decide (n.k=1/\0<=n.m)) (ns.take i);have ao:(ns.take i).length<=i:=by rw[gT];omega
 omega
def aes(u:ak)(ns:List cl)(w:ag)(aJ:hP w qe 8 u ns)(av:ns.length<=1000000):bg 9 #[u] w (S5 ns w):=by
 obtain⟨A,cap,rfl,aj⟩:=aJ;obtain⟨n,aH⟩:∃n,n=ns.length:=⟨_,rfl⟩;rw[<-aH]at aj av⊢;have b3:=I aH;have bS:=I aj;have Fl:=I (afh ns n);obtain⟨i0,aD,fY,cG,eM⟩:=hy Tryz.td;have eb:=I (λ(v:ak)(cc:aW)w1(h:dj w1 w v cc)(av:cc.length<4611686018427387904)=>aoY v w cc w1 h av);have ct:=I (λ(v:ak)(cc:aW)w1(h:dj w1 w v cc)=>aix v w cc w1 h);unfold aeL at eb;unfold abx at ct;have KC:=I (λ(a b c:ak)(w1:ag)(h:nG w1 w a b c (Lib.compact (EN (pA ns))) (Lib.compact (EN (pw ns))) [])(k:Kept w w1)=>(show S5 ns w (bL (bj #[a,b])) w1 from⟨a,b,rfl,h.j0.reads,h.mY.reads,k⟩));have vR:=I (show ns.take n=ns from mH (by rw[aH];exact bB _));clear aH aj;go_enter func9,ntmps9
 go_wp2_with fail
 go_loopw [4,5,10] (λa b y wr=>∃i:aa,y=ah i/\i<=n/\Kept w wr/\nG wr w a b bf (pA (ns.take i)) (pw (ns.take i)) []) (λ_ _ y _=>n-(intOf y).toNat)
 case atStart=>exact⟨0,rfl,d' _,aG _,nG.nil _ _⟩
 case round=>
  obtain⟨i,rfl,dG,ax,ao⟩:=hrel;by_cases aN:i<n
  .obtain⟨c9,j0,rfl,fU,ef⟩:=bS.out (by omega);have al:ns[i]?=some (ns[i]'(by have:=b3.out;omega)):=bn _;have qH:=ef i _ al;have c8:=I (anz al);obtain⟨r1,Fz⟩:=afh ns i;generalize ns[i]'(by have:=b3.out;omega)=X at*;obtain⟨k,dp,m,cQ,cf,⟨cg,bK,dR⟩⟩:=X;have bX:=ax.aI fU (qH 0 _ rfl);rw[lT]at bX;have bQ:=ax.aI fU (qH 1 _ rfl);have cx:=ax.aI fU (qH 2 _ rfl);have hx:=ax.aI fU (qH 3 _ rfl);have hK:=ax.aI fU (qH 4 _ rfl);have pE:=ax.aI fU (qH 5 _ rfl);have xZ:=ax.aI fU (qH 6 _ rfl);have EX:=ax.aI fU (qH 7 _ rfl);have ajT:=bG fU ax.size;have db:(i:J)<n:=by omega
   dsimp only at*;generalize pA (ns.take i)=bq at*;generalize pw (ns.take i)=b5 at*;clear ef qH al;go_upto_region 5 with fail
   have oM:=aB.new wr 45 #[k,dp,m,cQ,cf,cg,bK,dR];have fT:Kept w (wr.alloc (.cells #[k,dp,m,cQ,cf,cg,bK,dR] 45)):=Kept.alloc ax _;have aR:=nG.alloc ao (.cells #[k,dp,m,cQ,cf,cg,bK,dR] 45);clear ao ax bX bQ cx hx hK pE xZ EX;generalize wr.alloc (.cells #[k,dp,m,cQ,cf,cg,bK,dR] 45)=W at fT oM aR⊢;generalize wr.heap.size=g at oM⊢;have d0:=oM.cell 0;have d2:=oM.cell 2;have d4:=oM.cell 4;have dl:=oM.lt;simp only[hL,iP,jd]at d0 d2 d4;have hWs:=fT.size;have iR:=I aR;have n7:=I fT;clear oM aR fT;by_cases au:k=1
   case neg=>
    have Ek:(k !=1)=true:=by simpa using au
    have dA:=I au;clear au;go_wp2_with fail
    go_roundw
    case rel=>exact⟨i+1,rfl,aN,n7,by rw[c8.1,c8.2,aw (λh=>dA h.1),aw (λh=>dA h.1),hj,hj];exact iR⟩
    case measure=>simp[intOf];omega
   subst au;by_cases m1:m= -1
   .subst m1;go_wp2_with (at_builtin;refine jB _ rfl (.tmp 20) (.tmp 23) 46 rfl w 3 i0 () 1 8 underlying46 aD fY cG eM rfl (by decide) _ bq (bq.map (.int .i64)) rfl (fX iR.j0 _) ⟨W.heap.size,0,none⟩ 1 1 [ah cf] rfl rfl (n0 _ _ _) (oY cf) (by unfold maxLen;omega) (by omega) (by simp;omega) ?_;intro v' c4 gy cu _ dK;have cI:=I (bb gy (bb cu dK));clear gy cu dK)
    obtain⟨ab,ad,bw⟩:=cI.out;go_roundw
    case rel=>exact⟨i+1,rfl,aN,ll (n7.alloc _) (fX iR.j0 _) (bB _) ad,by rw[c8.1,c8.2,aP ⟨rfl,rfl⟩,aw (λh=>by have:=h.2;omega),hj];exact (iR.alloc _).eS ab ad bw⟩
    case measure=>simp[intOf];omega
   have cn:(m== -1)=false:=by simpa using m1
   by_cases m2:0<=m
   .have wV:=I m1;have jS:=I m2;clear m1;go_wp2_with (at_builtin;refine jB _ rfl (.tmp 28) (.tmp 31) 46 rfl w 3 i0 () 1 8 underlying46 aD fY cG eM rfl (by decide) _ b5 (b5.map (.int .i64)) rfl (fX iR.mY _) ⟨W.heap.size,0,none⟩ 1 1 [ah cf] rfl rfl (n0 _ _ _) (oY cf) (by unfold maxLen;omega) (by omega) (by simp;omega) ?_;intro v' c4 gy cu _ dK;have cI:=I (bb gy (bb cu dK));clear gy cu dK)
    obtain⟨ab,ad,bw⟩:=cI.out;go_roundw
    case rel=>exact⟨i+1,rfl,aN,ll (n7.alloc _) (fX iR.mY _) (bB _) ad,by rw[c8.1,c8.2,aw (λh=>wV h.2),aP ⟨rfl,jS⟩,hj];exact ((iR.alloc _).swap.eS ab ad bw).swap⟩
    case measure=>simp[intOf];omega
   .have wV:=I m1;have jS:=I m2;clear m1;go_wp2_with fail
    go_roundw
    case rel=>exact⟨i+1,rfl,aN,n7,by rw[c8.1,c8.2,aw (λh=>wV h.2),aw (λh=>jS h.2),hj,hj];exact iR⟩
    case measure=>simp[intOf];omega
  .obtain rfl:i=n:=by omega
   have db:¬((i:J)<i):=by omega
   rw[vR]at ao;obtain⟨lC,ac,rfl⟩:=iN ao.j0;obtain⟨LC,Af,rfl⟩:=iN ao.mY;have uT:=Fl.1;have oq:=Fl.2;rw[vR]at uT oq;have pJ:=I ao;have cp:=I ax;clear ao ax;generalize wr=W0 at*;go_wp2_with (first
    |(go_at_call_of 23 (Value.slice lC (pA ns).length ac);refine (eb _ _ _ pJ.j0 (by omega)).mono ?_;rintro e w1⟨rfl,dM,dQ⟩;have cI:=I (pJ.s1 dM rfl dQ);have iS:=I (ll cp pJ.j0 (bB _) dQ);clear dM dQ)
    |(go_at_call_of 23 (Value.slice LC (pw ns).length Af);refine (eb _ _ _ cI.mY (by omega)).mono ?_;rintro e w2⟨rfl,dM,dQ⟩;have dv:=I (cI.swap.s1 dM rfl dQ).swap;have HKB:=I (ll iS cI.mY (bB _) dQ);clear dM dQ)
    |(go_at_call_of 24 (Value.slice lC (pA ns).length ac);refine (ct _ _ _ dv.j0).mono ?_;rintro e ch⟨u1,rfl,dM,dQ,fP⟩;have cU:=I (dv.s1 dM dQ fP);have HF:=I (ll HKB dv.j0 (bB _) fP);clear dM dQ fP)
    |(go_at_call_of 24 (Value.slice LC (pw ns).length Af);refine (ct _ _ _ cU.mY).mono ?_;rintro e eK⟨u2,rfl,dM,dQ,fP⟩;have cW:=I (cU.swap.s1 dM dQ fP).swap;have KF:=I (ll HF cU.mY (bB _) fP);clear dM dQ fP))
   go_returns;exact (KC _ _ _ _ cW KF)
end
def RW(z:J)(w:ag)(e:Ending)(w':ag):Prop:=e=bL z/\Kept w w'
def ad0(v:ak)(x:cq)(i:aa)(w:ag)(bH:nF w v x)(aD:i<x.rs.length):bg 48 #[v,ah (i:J)] w (RW (kX x.rs i) w):=by
 obtain⟨b7,dy,cD,rfl,b6,cY,l5⟩:=bH;obtain⟨jf,jo,rfl,-⟩:=b6;obtain⟨hT,ij,rfl,-⟩:=cY;obtain⟨eR,rc,rfl,-,-,lI⟩:=l5;obtain⟨ej,ro,rfl,gq,kH⟩:=lI (by omega);obtain⟨r,al⟩:∃r,x.rs[i]?=some r:=⟨_,bn aD⟩;obtain⟨-,-,⟨eV,-⟩,-⟩:=kH i _ al;have hp:kX x.rs i=if r.bJ<0\/(i:J)<=r.bJ then -1 else r.bJ:=by unfold kX;rw[al,b9]
 rw[hp];generalize r.bJ=p at*;have db:(i:J)<x.rs.length:=by omega
 generalize x.ins.length=cC at*;generalize x.ds.length=ei at*;generalize x.rs.length=jb at*;clear kH al hp lI;unfold RW;have ai:Kept w (w.alloc (.cells #[x.aM,x.ms,ae jf cC jo,ae hT ei ij,ae (some (ej,ro)) jb rc] 89)):=(aG w).alloc _;have y2':=ai.aI gq eV;have asz:=bG gq ai.size;by_cases ab:p<0
 .rw[aP (.inl ab)];go_enter func48,ntmps48
  go_upto_region 1 with fail
  generalize aL:w.alloc _=W at*;obtain⟨-,bm⟩:=Kept.aQ aL;clear aL;obtain⟨a',b5⟩:=bm.p;clear bm;go_wp2_with fail
  go_ret;exact⟨rfl,ai⟩
 by_cases ad:(i:J)<=p
 .rw[aP (.inr ad)];go_enter func48,ntmps48
  go_upto_region 1 with fail
  generalize aL:w.alloc _=W at*;obtain⟨-,bm⟩:=Kept.aQ aL;clear aL;obtain⟨a',b5⟩:=bm.p;clear bm;go_wp2_with fail
  go_ret;exact⟨rfl,ai⟩
 .rw[aw (by omega)];go_enter func48,ntmps48
  go_upto_region 1 with fail
  generalize aL:w.alloc _=W at*;obtain⟨-,bm⟩:=Kept.aQ aL;clear aL;obtain⟨a',b5⟩:=bm.p;clear bm;go_wp2_with fail
  go_ret;exact⟨rfl,ai⟩
def zm(k:List Bool)(n j:aa):aW:=(qR k 0).take j++List.replicate (n-j) 0
def YB(n:aa)(l:aW)(w:ag)(e:Ending)(w':ag):Prop:=∃H,e=bL (ae (some ⟨H,0,none⟩) n n)/\w.heap.size<=H/\aB w' H 3 (sl l)/\Kept w w'
theorem GI:∀(k:List Bool)(c:J),(qR k c).length=k.length
 |[],_=>rfl
 |_::r,c=>by rw[qR,hi,hi,GI r]
def amY{k:List Bool}{j:aa}{b:Bool}(h:k[j]?=some b):(zm k k j).set j (if b then (oJ k j:J)else -1)=zm k k (j+1):=by
 have ay:=(b2 h).1;have aj:=RV k 0 j ay;rw[h,b9]at aj;have hlen:((qR k 0).take j).length=j:=by rw[gT,GI];omega
 unfold zm;rw[A' _ _ (by omega),hlen,k7,qZ,aj,zA,nY];congr 1;obtain⟨m,hm⟩:∃m,k.length-j=m+1:=⟨k.length-j-1,by omega⟩;rw[hm,J',lS,J_,show k.length-(j+1)=m by omega]
 cases b<;>simp
def abk(k:List Bool)(i:aa):oJ k i<=i:=by
 unfold oJ;exact fN (nX _ _) (by rw[vG];exact bB _)
def amW(G:aa)(k:List Bool)(w:ag)(aL:aB w G 4 (iJ k))(av:k.length<=1000):bg 47 #[ae (some (G,0)) k k] w (YB k (qR k 0) w):=by
 obtain⟨i0,aD,fY,cG,eM⟩:=hy Tryz.td;obtain⟨n,aH⟩:∃n,n=k.length:=⟨_,rfl⟩;have b3:=I aH;have fl:=I (λj b(h:k[j]?=some b)=>amY h);rw[<-aH]at av fl⊢;have HI0:=I (show zm k n 0=List.replicate n 0 from by unfold zm;simp);have Dn:=I (show zm k n n=qR k 0 from by unfold zm;rw[mH (by rw[GI,aH];exact bB _),k7];simp);have o':=I (show∀j,j<=n->(zm k n j).length=n from λj ay=>by unfold zm;rw[fk,gT,GI,iQ];omega);unfold YB;clear aH;go_enter func47,ntmps47
 go_upto_region 2 with (at_make;refine rR _ rfl _ _ 46 rfl w 3 i0 () 1 underlying46 aD fY cG _ _ _ _ n rfl rfl rfl rfl (by rw[eM];omega) (by unfold maxLen;omega) (bB _) ?_;intro w1 cN cu;have cB:=I (adh cN cu);clear cN cu)
 obtain⟨bN,h9⟩:=cB.out;rw[<-HI0]at bN;have hGw:=aL.kept h9;have rA:=h9.size;have Dm:=I (λw2(h:Kept w w2)=>aL.kept h);have HK:=I bN;have KG:=I h9;have s5:=aL.lt;clear cB bN h9 hGw HI0;go_upto_region 4 with fail
 go_loopw [4,12] (λc y wr=>∃i:aa,y=ah i/\i<=n/\c=ah (oJ k i:J)/\Kept w wr/\aB wr w 3 (sl (zm k n i))) (λ_ y _=>n-(intOf y).toNat)
 case atStart=>exact⟨0,rfl,d' _,rfl,KG,HK⟩
 case round=>
  obtain⟨i,rfl,dG,rfl,ax,bc⟩:=hrel;by_cases aN:i<n
  .have db:(i:J)<n:=by omega
   obtain⟨b,af⟩:∃b,k[i]?=some b:=⟨_,bn (by have:=b3.out;omega)⟩;have WJ:=Dm.out wr ax;have P9:=WJ.cell i;rw[oa af]at P9;have Yh:=WJ.lt;have uR:=abk k i;have hR:=Vn k i;rw[af,b9]at hR;have eb:=I (fl i b af);have dB:=I (o' i (by omega));obtain⟨z,bP⟩:∃z,(zm k n i)[i]?=some z:=⟨_,bn (by rw[dB];exact aN)⟩;have aup:=bc.cell i;rw[Jw bP]at aup;have avs:=bc.frozen i;have lw:=bc.lt;have od:=bc.ba i (ah (-1));have cw1:=od.cell i;have fw1:=od.frozen i;rw[X1]at od cw1;rw[Jw (n:= -1) (by rw[uk (by rw[dB];exact aN)])]at cw1;have im:=od.ba i (ah (oJ k i:J));rw[X1,List.set_set]at im;have oe:=ax.setCell (p:=⟨w.heap.size,i,none⟩) (bB _) (ah (-1));have dA:=I oe;have hk:=I (oe.setCell (p:=⟨w.heap.size,i,none⟩) (bB _) (ah (oJ k i:J)));have e3:=I od;have eA:=I im;have OV:=I hR;clear WJ bc od im oe ax af bP hR;generalize ef:oJ k i=P7 at*;have OU:=I ef;clear ef
   cases b
   .go_wp2_with fail
    go_roundw
    case rel=>exact⟨i+1,by go_num,aN,by rw[OV];rfl,dA,by have:=eb.out;simp only[A7,sx]at this;rw[<-this];exact e3⟩
    case measure=>simp[intOf];omega
   .go_wp2_with fail
    go_roundw
    case rel=>exact⟨i+1,by go_num,aN,by rw[OV];simp,hk,by have:=eb.out;simp only[k3]at this;rw[<-this];exact eA⟩
    case measure=>simp[intOf];omega
  .obtain rfl:i=n:=by omega
   have db:¬((i:J)<i):=by omega
   rw[Dn]at bc;have dv:=I bc;have cp:=I ax;clear bc ax;go_wp2_with fail
   go_ret;exact⟨_,rfl,bB _,dv,cp⟩
def aaa(k e:J)(w:ag)(r:Ending)(w':ag):Prop:=r=bL (aF #[k,e,()])/\Kept w w'
def aqX(k e:J)(w:ag):bg 79 #[aF #[k,e]] w (aaa k e w):=by
 unfold aaa;go_enter func79,ntmps79
 go_upto_region 1 with fail
 generalize aL:(w.alloc _).alloc _=W at*;obtain⟨aV,bh,bm⟩:=Kept.a_ aL;clear aL;obtain⟨aY,bq⟩:=bh.p;obtain⟨a',b5,f2⟩:=bm.q;have cE:=I (((bm.ba 0 k).ba 1 e).ba 2 ()).cell;have cp:=I (((aV.setCell (p:=⟨w.heap.size+1,0,none⟩) (pG _) k).setCell (p:=⟨w.heap.size+1,1,none⟩) (pG _) e).setCell (p:=⟨w.heap.size+1,2,none⟩) (pG _) ());clear bh bm;go_wp2_with fail
 have e5:=cE.out;exact bI (v:=aF #[k,e,()]) (by simp[results,results79,go_sem,e5]) rfl ⟨rfl,cp⟩
def R7(l:List cw)(w:ag)(e:Ending)(w':ag):Prop:=∃u,e=bL u/\ea (λb=>w.heap.size<=b) w' (λw2=>iU w2 u l)/\Kept w w'
def Ey{w:ag}{g t:aa}{op n:J}(bc:aB w g t #[op,n])(aH: -9223372036854775808<=n/\n<=9223372036854775807){B:aa}(al:B<=g):ea (λb=>B<=b) w (λw2=>iU w2 (.slice (some (g,0)) 1 1) [⟨op,n⟩]):=λw2 aO af=>by
 have ad:aB w2 g t #[op,n]:=(af g bc.lt al).trans bc;refine⟨⟨some ⟨g,0,none⟩,1,rfl,λ_=>⟨g,0,rfl,ad.lt,λj x ay i u hu=> ?_⟩⟩,by simp,λx aj=>by rw[kb]at aj;subst aj;exact aH⟩;match j,ay with
 |0,ay=>
  cases ay;match i,hu with
  |0,hu=>cases hu;exact ad.cell 0
  |1,hu=>cases hu;exact ad.cell 1
def amo(v:ak)(x:cq)(d:J)(w:ag)(bH:nF w v x)(aE:0<=d/\d<x.ds.length)(f:mI)(bV:x.ds[d.toNat]?=some f)(ai:1<=f.k/\f.k<=6)(he:0<=f.e/\f.e<=1000):bg 49 #[v,d] w (R7 (jM x d) w):=by
 obtain⟨b7,dy,cD,rfl,b6,cY,l5⟩:=bH;obtain⟨jf,jo,rfl,-⟩:=b6;obtain⟨hT,ij,rfl,-,-,Q7⟩:=cY;obtain⟨eR,rc,rfl,-⟩:=l5;obtain⟨vX,VG,rfl,tU,MP⟩:=Q7 (by omega);obtain⟨ek,rfl⟩:∃ek:aa,d=ek:=⟨d.toNat,by omega⟩;rw[c7]at bV;obtain⟨-,⟨dr,-⟩,⟨eV,-⟩⟩:=MP ek _ bV;have bE:jM x (ek:J)=if f.k<=5 then [⟨f.k,0⟩]else [⟨6,16*f.e⟩]:=by
  unfold jM;rw[aw (by omega),c7,bV,b9];by_cases bw:f.k<=5
  .rw[aP ⟨ai.1,bw⟩,aP bw]
  .rw[aw (by omega),aw bw,aP (by omega)]
 rw[bE];obtain⟨fn,uO,BY⟩:=f;dsimp only at*;generalize x.ins.length=cC at*;generalize y7:x.ds.length=ei at*;generalize x.rs.length=jb at*;clear MP bV bE y7 Q7;have cE:=I (λw1=>aqX uO BY w1);unfold aaa at cE;unfold R7;have aV:Kept w (w.alloc (.cells #[x.aM,x.ms,ae jf cC jo,ae (some (vX,VG)) ei ij,ae eR jb rc] 89)):=(aG w).alloc _;have bm:=aB.new w 89 #[x.aM,x.ms,ae jf cC jo,ae (some (vX,VG)) ei ij,ae eR jb rc];have y1':=aV.aI tU dr;have y2':=aV.aI tU eV;have ajY:=bG tU aV.size;go_enter func49,ntmps49
 go_upto_region 1 with fail
 generalize w.alloc (.cells #[x.aM,x.ms,ae jf cC jo,ae (some (vX,VG)) ei ij,ae eR jb rc] 89)=W at*;obtain⟨a',b5⟩:=bm.p;have qP:=aV.size;go_upto_region 4 with (go_at_call 79;refine (cE _).mono ?_;rintro aQ w1⟨rfl,au⟩)
 generalize aL:w1.alloc _=V at*;obtain⟨hz,hq⟩:=Kept.aQ aL;clear aL;have du:=au.trans hz;have rA:=au.size;clear a' b5 y1' y2' ajY bm;clear hz;have fi:=aV.trans du;have Cy:=fi.size;obtain⟨b_,gA⟩:=hq.p;by_cases bd:uO=1
 .subst bd;have g_:=aB.new V 101 #[ah 1,()];have cU:=I (Ey g_ (by omega) Cy);have cp:=I (fi.alloc (.cells #[ah 1,()] 101));clear hq g_ aV du au;go_wp2_with fail
  go_ret;exact⟨_,rfl,cU,cp⟩
 by_cases a8:uO=2
 .subst a8;have g_:=aB.new V 101 #[ah 2,()];have cU:=I (Ey g_ (by omega) Cy);have cp:=I (fi.alloc (.cells #[ah 2,()] 101));clear hq g_ aV du au;go_wp2_with fail
  go_ret;exact⟨_,rfl,cU,cp⟩
 by_cases dI:uO=3
 .subst dI;have g_:=aB.new V 101 #[ah 3,()];have cU:=I (Ey g_ (by omega) Cy);have cp:=I (fi.alloc (.cells #[ah 3,()] 101));clear hq g_ aV du au;go_wp2_with fail
  go_ret;exact⟨_,rfl,cU,cp⟩
 by_cases dk:uO=4
 .subst dk;have g_:=aB.new V 101 #[ah 4,()];have cU:=I (Ey g_ (by omega) Cy);have cp:=I (fi.alloc (.cells #[ah 4,()] 101));clear hq g_ aV du au;go_wp2_with fail
  go_ret;exact⟨_,rfl,cU,cp⟩
 by_cases ud:uO=5
 .subst ud;have g_:=aB.new V 101 #[ah 5,()];have cU:=I (Ey g_ (by omega) Cy);have cp:=I (fi.alloc (.cells #[ah 5,()] 101));clear hq g_ aV du au;go_wp2_with fail
  go_ret;exact⟨_,rfl,cU,cp⟩
 by_cases JP:uO=6
 .subst JP;have g_:=aB.new V 101 #[ah 6,ah (16*BY)];have cU:=I (Ey g_ (by omega) Cy);have cp:=I (fi.alloc (.cells #[ah 6,ah (16*BY)] 101));clear hq g_ aV du au;go_wp2_with fail
  go_ret;exact⟨_,rfl,cU,cp⟩
 omega
end Go.Proofs.YtilhklpfkgbikaaGreatDoor
