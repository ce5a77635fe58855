import Derived.Test.YtilhklpfkgbikaaGreatDoorAJ
import Derived.Test.YtilhklpfkgbikaaGreatDoorAQ
set_option linter.all false
namespace Go.Proofs.YtilhklpfkgbikaaGreatDoor
open Go.RowKit Go.Proofs.Tryz
set_option maxRecDepth 100000
set_option maxHeartbeats 64000000
abbrev Ih:=cq×ak×ak×ak
def ml(w:ag)(G:aa)(P:aa->Prop)(cA:List Ih):Prop:=
 ∃arr:ho,aB w G 89 arr/\(∀(j:aa)(y:Ih)(k:aa)(u:ak),cA[j]?=some y->(EP y)[k]?=some u->arr[j*5+k]?=some u)/\∀y∈cA,ea (λb=>P b/\b≠G) w (J1 y)
section
variable {w w':ag} {G N:aa} {P:aa->Prop} {cA:List Ih}
def ml.of{G8:ak}(h:jT w N 89 5 EP (AR N) J1 G8 cA)(ar:0<cA.length):∃G c,G8=ae (some ⟨G,0,none⟩) cA c/\N<=G/\G<w.heap.size/\cA.length<=c/\ml w G (λb=>N<=b) cA:=by
 rcases h.g.2 with⟨-,aH⟩|⟨g,cap,cur,aK,ab,ad,ao,aR,bw,eL⟩
 .omega
 .refine⟨g,cap,aK,ab,(nW.1 ad).1,ao,cur,ad,λj y k u ay ai=> ?_,λy bZ=> ?_⟩
  .have bV:=DT Ze cA j y ay k u ai;have qL:=(b2 ay).1;have fu:k<5:=by have:=(b2 ai).1;rwa [Ze]at this
   rw[<-eL,tv (by have:(j+1)*5<=cA.length*5:=ZS 5 qL;omega),Ba]at bV;exact bV
  .refine (h.q y bZ).mono λb af aA=>⟨?_,λe=>aA.2 (by rw[aK,e];rfl)⟩;rcases aA.1 with hX|hX
   .exact hX.1.elim
   .exact hX
def ml.lt(h:ml w G P cA):G<w.heap.size:=by
 obtain⟨arr,ab,-⟩:=h;exact ab.lt
def ml.frozen(h:ml w G P cA)(i:aa):w.frozen? (G,i)=false:=by
 obtain⟨arr,ab,-⟩:=h;exact ab.frozen i
def ml.step{P':aa->Prop}(h:ml w G P cA)(aO:w<=w'.heap.size)(af:∀b,b<w.heap.size->P b\/b=G->w'.heap[b]?=w.heap[b]?)(hp:∀b,b<w.heap.size->P b->P' b):ml w' G P' cA:=by
 obtain⟨arr,ab,ad,ao⟩:=h;exact⟨arr,(af G ab.lt (.inr rfl)).trans ab,ad,λy bZ=>(ao y bZ).step aO (λb Gi aA=>af b Gi (.inl aA.1)) λb Gi aA=>⟨hp b Gi aA.1,aA.2⟩⟩
def ml.kept(h:ml w G P cA)(ai:Kept w w'):ml w' G P cA:=h.step ai.size (λb af _=>ai.block b af) λ_ _ h=>h
def ml.far(h:ml w G P cA){p:Addr}(hp:¬P p.block)(al:p.block≠G)(u:ak):ml (w.setCell p u) G P cA:=
 h.step (by simp) (λb _ aA=>jQ w p u b (λe=>by rcases aA with aA|aA;exact hp (e▸aA);exact al (e▸aA))) λ_ _ h=>h
def ml.at_(h:ml w G P cA){j:aa}{y:Ih}(ay:cA[j]?=some y){k:aa}{u:ak}(ai:(EP y)[k]?=some u):aU w (G,j*5+k)=some u:=by
 obtain⟨arr,ab,ad,-⟩:=h;rw[ab.cell];exact ad j y k u ay ai
def ml.spv(h:ml w G P cA){j:aa}{y:Ih}(ay:cA[j]?=some y):ea (λb=>P b/\b≠G) w λu=>nF u (aF #[y.1.aM,y.1.ms,y.2.1,y.2.2.1,y.2.2.2]) y.1:=by
 obtain⟨arr,-,-,ao⟩:=h;exact (ao y (fe ay)).imp λu hu=>⟨_,_,_,rfl,hu.2.1,hu.2.2.1,hu.2.2.2⟩
def ml.put(h:ml w G P cA){i:aa}{y:Ih}(aD:cA[i]?=some y){rs:List br}{u:ak}(hu:ea (λb=>P b/\b≠G) w (λx=>c0 9 lz x u rs)):ml (w.setCell (G,i*5+4) u) G P (cA.set i (⟨y.1.aM,y.1.ms,y.1.ins,y.1.ds,rs⟩,y.2.1,y.2.2.1,u)):=by
 obtain⟨arr,ab,ad,ao⟩:=h;have fB:=(b2 aD).1;have cY:∀{Q:ag->Prop},ea (λb=>P b/\b≠G) w Q->ea (λb=>P b/\b≠G) (w.setCell ⟨G,i*5+4,none⟩ u) Q:=λaz=>az.wC (p:=⟨G,i*5+4,none⟩) (λaA=>aA.2 rfl);refine⟨_,ab.ba (i*5+4) u,λj z k x ay ai=> ?_,λz bP=> ?_⟩
 .have fu:k<5:=by have:=(b2 ai).1;rwa [Ze]at this
  rw[Hg];by_cases hH:i=j
  .subst hH;rw[uk fB]at ay;obtain rfl:=cJ ay;by_cases M5:k=4
   .subst M5;have aR:=ad i y 4 y.2.2.2 aD rfl;rw[aP rfl,aP (nW.1 aR).1];exact ai
   .rw[aw (by omega)];refine ad i y k x aD ?_;match k,fu,ai with
    |0,_,ai=>exact ai
    |1,_,ai=>exact ai
    |2,_,ai=>exact ai
    |3,_,ai=>exact ai
    |4,_,_=>exact (M5 rfl).elim
  .rw[wK hH]at ay;rw[aw (by omega)];exact ad j z k x ay ai
 .rcases ZP bP with bP|rfl
  .exact cY (ao z bP)
  .exact ((cY (ao y (fe aD))).and (cY hu)).imp λx aj=>⟨aj.1.1,aj.1.2.1,aj.1.2.2.1,aj.2⟩
def ml.sc(h:ml w G P cA)(av:cA.length<=1000){n c:aa}(aH:n=cA.length)(aq:n<=c):c0 5 yy w (ae (some (G,0)) n c) (cA.map (·.1)):=by
 subst aH;refine⟨_,c,by rw[er],by rw[er];exact aq,by rw[er];omega,λhp=>⟨G,0,rfl,h.lt,λj x ay=> ?_⟩⟩;rw[hS,Da]at ay;obtain⟨y,bZ,rfl⟩:=ay;obtain⟨arr,ab,ad,ao⟩:=h;refine ao0 _ _ _ _ (λk u ai=> ?_) (ao y (fe bZ)).now;rw[ab.cell,ql];exact ad j y k u bZ ai
end
def q3.Iy{l:cO}(a1:wP l.bs){f:mI}{a b:List mI}(h:q3 l.ms f a b):(1<=f.k/\f.k<=6)/\0<=f.e/\f.e<=1000:=by
 obtain⟨-,-,-,aK⟩:=h;have av:l.ms.length<=1000:=by unfold cO.ms;rw[er];have:=a1.aD;omega
 unfold lr at aK;split at aK
 .rw[nB,gg,gg]at aK;omega
 .rw[nB,nB,gg,gg,gg]at aK;omega
def anQ{l:cO}(dZ:lx l){x:cq}(aj:x∈l.sc){keep:aW}(ok:aa->Prop)(cH wv:ak)(w:ag)(bH:ea ok w (λw2=>nF w2 cH x))(ax:gw w wv keep)(fu:keep.length<=1000000):bg 26 #[cH,wv] w (SF ok x keep w):=by
 obtain⟨i,aD⟩:=mc aj;have eb:=dZ.sc.all i x aD;refine anT ok cH wv x keep w bH ax (dZ.short.rs x aj) fu eb.rd λf bV=> ?_;obtain⟨j,ay⟩:=mc bV;exact (eb.ds j f ay).Iy dZ.bs
def R5(l:cO)(i:aa)(s:cq)(own gE:aW)(w:ag)(e:Ending)(w':ag):Prop:=∃u,e=bL u/\h1 w' u (j_ l i s own gE)/\Kept w w'
def aiV{ok ok':aa->Prop}{w w':ag}{Q:ag->Prop}(h:ea ok w Q)(aA:∀b,b<w.heap.size->ok b->ok' b)(ai:Kept w w'):ea ok' w' Q:=(h.mono aA).kept ai
def acX(v gr c1:ak)(l:cO)(i:aa)(s:cq)(own gE:aW)(w:ag)(bE:h1 w v l)(dZ:lx l)(aD:l.sc[i]?=some s)(ab:gw w gr own)(ad:gw w c1 gE)(oP:own.length<=1000000)(gp:gE.length<=1000000):bg 10 #[v,ah (i:J),gr,c1] w (R5 l i s own gE w):=by
 have hr:=I (λw1(h:Kept w w1)=>aii v l w1 (bE.kept h) dZ.short);unfold Vm at hr;have Uo:=I (λ(x:cq)(aj:x∈l.sc)(ok:aa->Prop)(cH wv:ak)(keep:aW)w1(bH:ea ok w1 (λw2=>nF w2 cH x))(ax:gw w1 wv keep)(fu:keep.length<=1000000)=>anQ dZ aj ok cH wv w1 bH ax fu);unfold SF at Uo;have dY:=I (λw1(h:Kept w w1)=>bb (ab.kept h) (ad.kept h));obtain⟨du,p7,rfl,-⟩:=ab.at_;obtain⟨gn,lK,rfl,-⟩:=ad.at_;obtain⟨dw,cM,cH,rfl,hD,aQ,a_⟩:=bE;obtain⟨c5,eW,rfl,-⟩:=hD;obtain⟨cV,cX,rfl,-⟩:=aQ;obtain⟨hM,fJ,rfl,-⟩:=a_;obtain⟨n,aH⟩:∃n,n=l.sc.length:=⟨_,rfl⟩;have jL:=dZ.short.sc;have ym:=I dZ;have fB:=(b2 aD).1;rw[<-aH]at jL fB hr⊢;have b3:=I aH;have OQ:=I aD;have ar4:(i:J)<n:=by omega
 have Rj:¬((i:J)<0):=by omega
 have MX:¬((n:J)<=i):=by omega
 have sh:s.ms<i:=by
  rcases (dZ.sc.all i s aD).ms with ao|⟨-,ao,-⟩
  .omega
  .exact ao
 unfold R5;obtain⟨R,aJ⟩:∃R,R=j_ l i s own gE:=⟨_,rfl⟩;rw[<-aJ];have aX:=I aJ;clear aH aJ dZ aD;go_enter func10,ntmps10
 go_upto_region 1 with fail
 generalize aL:(w.alloc _).alloc _=W at*;obtain⟨aV,bh,bm⟩:=Kept.a_ aL;clear aL;have bq:=bh.lt;have b5:w.heap.size+1<W:=bm.lt;have eA:=I bm;have e8:=I aV;have aY:=bh.cell;have hsW:=aV.size;clear bh bm aV;go_upto_region 2 with (go_at_call 25;refine (hr _ e8).mono ?_;rintro aQ w1⟨VT,Zt,G8,ok,N,cA,rfl,aA,p1,cY,cd,cL,AH,au⟩;have ov:cA.length=n:=(by rw[b3,<-AH,er]);obtain⟨G,c,rfl,Wt,Mn,ef,bN⟩:=ml.of cL (by omega);rw[ov];obtain⟨k9,fc,rfl⟩:=J0 cY.now.1;obtain⟨mK,ka,rfl⟩:=J0 cY.now.2;have sK:=I aA;have HLO:=I p1;have cU:=I cY;have cB:=I bN;have q8:=I AH;have HYL:=I ov;have dA:=I au;have HNG:=I Wt;clear aA p1 cY bN AH ov au cL Wt)
 generalize aL:w1.alloc _=V at*;obtain⟨du,iw⟩:=Kept.aQ aL;clear aL;have ov:=HYL.out;have Wt:=HNG.out;have uR:n<=c:=by omega
 have O0:=I (sK G rfl);have cU:=I (aiV (ok':=λb=>ok b/\b≠w1.heap.size) cU (λb af h=>⟨h,by omega⟩) du);have cB:=I ((cB.step (P':=λb=>N<=b/\b≠w1.heap.size) (bB _) (λ_ _ _=>rfl) (λb af h=>⟨h,by omega⟩)).kept du);have hk:=I ((e8.trans dA).trans du);have sG:=I (eA.kept (dA.trans du));have rA:=dA.size;have hsV:=du.size;clear du aY bq;generalize w1.heap.size=g9 at*;have xG:g9<V:=iw.lt;have ri:=iw.cell;have uy:=I iw;clear iw;obtain⟨⟨s1,Hf,He,auX⟩,bZ⟩:∃y,cA[i]?=some y:=⟨_,bn (by omega)⟩;have AH:s=s1:=by
  have ao:(cA.map (·.1))[i]?=some s1:=by rw[hS,bZ];rfl
  rw[q8,OQ]at ao;exact cJ ao
 subst AH;have m0:aU V (G,i*5)=some (.string s.aM):=cB.at_ bZ (k:=0) rfl;have m1:=cB.at_ bZ (k:=1) (u:=ah s.ms) rfl;have m2:=cB.at_ bZ (k:=2) (u:=Hf) rfl;have m3:=cB.at_ bZ (k:=3) (u:=He) rfl;have m4:=cB.at_ bZ (k:=4) (u:=auX) rfl;have vP:=I (cB.spv bZ);have K2:=I bZ;have auB:G<V.heap.size:=by omega
 have rY:=I (cU.mono (ok':=λb=>(ok b/\b≠g9)/\b≠G) λb _ h=>⟨h,λe=>O0 (e▸h.1)⟩);clear bZ;go_upto_region 4 with fail
 go_cut [34]from 13 to 34 (λx cj=>x= .pointer (some (G,i*5+4))/\∃u:ak,ml cj G (λb=>N<=b/\b≠g9) (cA.set i (⟨s.aM,s.ms,s.ins,s.ds,ht s own⟩,Hf,He,u))/\aB cj g9 26 #[ae k9 l.bs fc,ae mK l.tb ka,ae (some (G,0)) n c]/\aB cj (w.heap.size+1) 26 #[bf,bf,bf]/\ea (λb=>(ok b/\b≠g9)/\b≠G) cj (λx=>c0 2 n2 x (ae k9 l.bs fc) l.bs/\c0 6 ld x (ae mK l.tb ka) l.tb)/\Kept w cj/\V.heap.size<=cj.heap.size)
 case first=>
  go_region_with (go_at_call 26;refine (Uo s (fe OQ) (λb=>(N<=b/\b≠g9)/\b≠G) _ _ own _ (vP.kept ((aG V).drew)) (dY _ (hk.trans ((aG V).drew))).1 oP).mono ?_;rintro cv ch⟨u3,rfl,se,bF⟩;have eO:Kept V ch:=((aG V).drew).trans bF;have gO:=I eO;obtain⟨eR,rc,rfl⟩:=J0 se.now;have Ms:=(cB.kept eO).put K2 (se.mono λb af aA=>by rcases aA with aA|aA;exact aA.1;simp at aA;exact⟨⟨by omega,by omega⟩,by omega⟩);have Fp:=I Ms;have tN:=uy.kept eO;have TT:=I (tN.far (p:=⟨G,i*5+4,none⟩) (by simp only;omega) (.slice eR (ht s own).length rc));have z93:=tN.cell;have l93:=tN.lt;have f3:=(cB.kept eO).frozen (i*5+4);have lG3:=(cB.kept eO).lt;have m43:=(cB.kept eO).at_ K2 (k:=4) rfl;have RH:=eO.size;clear se bF tN eO Ms)
  all_goals
   go_wp2_with fail
   go_meet;exact⟨rfl,_,Fp,TT,(sG.kept gO).far (p:=⟨G,i*5+4,none⟩) (by simp only;omega) _,(rY.kept gO).wC (p:=⟨G,i*5+4,none⟩) (λh=>h.2 rfl),(hk.trans gO).setCell (p:=⟨G,i*5+4,none⟩) (by simp only;omega) _,by simp;omega⟩
 obtain⟨rfl,u1,I5,IV,IU,yT,oe,asG⟩:=hcut;generalize wc=hs at*;have hyi:(cA.set i (⟨s.aM,s.ms,s.ins,s.ds,ht s own⟩,Hf,He,u1))[i]?=some (⟨s.aM,s.ms,s.ins,s.ds,ht s own⟩,Hf,He,u1):=uk (by omega);have m1:=I5.at_ hyi (k:=1) (u:=ah s.ms) rfl;clear hyi rY vP cU;have cG:(cA.set i (⟨s.aM,s.ms,s.ins,s.ds,ht s own⟩,Hf,He,u1)).map (·.1)=l.sc.set i (mD s (ht s own)):=by rw[Kg,q8];rfl
 have ze:(cA.set i (⟨s.aM,s.ms,s.ins,s.ds,ht s own⟩,Hf,He,u1)).length=n:=by rw[gJ];exact ov
 have yp:=I cG;have Fw:=I ze;clear cG ze;generalize cA.set i (⟨s.aM,s.ms,s.ins,s.ds,ht s own⟩,Hf,He,u1)=cc at*;obtain⟨ri,xG⟩:=IV.p;have cB:=I I5;have auB:=I5.lt;have uy:=I IV;have sG:=I IU;have rY:=I yT;have hk:=I oe;clear I5 IV IU yT oe;go_upto_region 6 with fail
 clear m1;by_cases hm:0<=s.ms
 case neg=>
  have cW:Hid (R.sc=l.sc.set i (mD s (ht s own))):=I (by rw[aX];exact aw (λh=>hm h.1));have hV:=sG.cell;have mB:=sG.lt;have f8:=sG.frozen;go_upto_region 8 with fail
  have Ci:¬(N<=w.heap.size+1/\w.heap.size+1≠g9):=λh=>by have:=h.1;omega
  have Cj:w.heap.size+1≠G:=by omega
  have Cq:¬((ok (w.heap.size+1)/\w.heap.size+1≠g9)/\w.heap.size+1≠G):=λh=>by have:=HLO.out _ h.1.1;omega
  have cE:=I (((sG.ba 0 (ae k9 l.bs fc)).ba 1 (ae mK l.tb ka)).ba 2 (ae (some (G,0)) n c)).cell;have Ub:=I (((cB.far (p:=⟨w.heap.size+1,0,none⟩) Ci Cj (ae k9 l.bs fc)).far (p:=⟨w.heap.size+1,1,none⟩) Ci Cj (ae mK l.tb ka)).far (p:=⟨w.heap.size+1,2,none⟩) Ci Cj (ae (some (G,0)) n c));have Ky:=I (((rY.wC (p:=⟨w.heap.size+1,0,none⟩) (u:=ae k9 l.bs fc) Cq).wC (p:=⟨w.heap.size+1,1,none⟩) (u:=ae mK l.tb ka) Cq).wC (p:=⟨w.heap.size+1,2,none⟩) (u:=ae (some (G,0)) n c) Cq);have T9:=I (((hk.setCell (p:=⟨w.heap.size+1,0,none⟩) (pG _) (ae k9 l.bs fc)).setCell (p:=⟨w.heap.size+1,1,none⟩) (pG _) (ae mK l.tb ka)).setCell (p:=⟨w.heap.size+1,2,none⟩) (pG _) (ae (some (G,0)) n c));clear Ci Cj Cq;go_wp2_with fail
  have e5:=cE.out;refine bI (v:=aF #[ae k9 l.bs fc,ae mK l.tb ka,ae (some (G,0)) n c]) (by simp[results,results10,go_sem,e5]) rfl ?_;exact⟨_,rfl,⟨_,_,_,rfl,by rw[aX];exact Ky.now.1,by rw[aX];exact Ky.now.2,by rw[cW,<-yp];exact Ub.sc (by rw[Fw];exact jL) Fw.symm uR⟩,T9⟩
 case pos=>
  obtain⟨k,ai⟩:∃k:aa,s.ms=(k:J):=⟨s.ms.toNat,by omega⟩;have fu:k<n:=by omega
  have Rm:(k:J)<n:=by omega
  have lF:¬((k:J)=i):=by omega
  have akf:k≠i:=by omega
  have my:(0:J)<=k:=by omega
  obtain⟨s2,mT⟩:∃s2,l.sc[k]?=some s2:=⟨_,bn (by have:=b3.out;omega)⟩;have HR:=I mT;have cW:Hid (R.sc=(l.sc.set i (mD s (ht s own))).set k (mD s2 (ht s2 gE))):=I (by
   have bN:bl l s=s2:=by unfold bl;rw[aP hm,ai,c7,mT,b9]
   rw[aX];unfold j_;simp only;rw[aP ⟨hm,by have:=b3.out;omega,by omega⟩,bN,ai,c7])
  clear mT;simp only[ai];go_upto_region 7 with fail
  obtain⟨⟨G5,Tc,Tb,yr2⟩,bZ⟩:∃y,cc[k]?=some y:=⟨_,bn (by have:=Fw.out;omega)⟩;have AH:s2=G5:=by
   have ao:(cc.map (·.1))[k]?=some G5:=by rw[hS,bZ];rfl
   rw[yp,wK (λe=>akf e.symm),HR]at ao;exact cJ ao
  subst AH;have m0:aU hs (G,k*5)=some (.string s2.aM):=cB.at_ bZ (k:=0) rfl;have m1:=cB.at_ bZ (k:=1) (u:=ah s2.ms) rfl;have m2:=cB.at_ bZ (k:=2) (u:=Tc) rfl;have m3:=cB.at_ bZ (k:=3) (u:=Tb) rfl;have m4:=cB.at_ bZ (k:=4) (u:=yr2) rfl;have vP:=I (cB.spv bZ);have K2:=I bZ;clear bZ;go_cut [66]from 13 to 66 (λx cj=>x= .pointer (some (G,k*5+4))/\∃u:ak,ml cj G (λb=>N<=b/\b≠g9) (cc.set k (⟨s2.aM,s2.ms,s2.ins,s2.ds,ht s2 gE⟩,Tc,Tb,u))/\aB cj g9 26 #[ae k9 l.bs fc,ae mK l.tb ka,ae (some (G,0)) n c]/\aB cj (w.heap.size+1) 26 #[bf,bf,bf]/\ea (λb=>(ok b/\b≠g9)/\b≠G) cj (λx=>c0 2 n2 x (ae k9 l.bs fc) l.bs/\c0 6 ld x (ae mK l.tb ka) l.tb)/\Kept w cj/\hs.heap.size<=cj.heap.size)
  case first=>
   go_region_with (go_at_call 26;refine (Uo s2 (fe HR) (λb=>(N<=b/\b≠g9)/\b≠G) _ _ gE _ (vP.kept ((aG hs).drew)) (dY _ (hk.trans ((aG hs).drew))).2 gp).mono ?_;rintro cv ch⟨u3,rfl,se,bF⟩;have eO:Kept hs ch:=((aG hs).drew).trans bF;have gO:=I eO;obtain⟨eR,rc,rfl⟩:=J0 se.now;have Ms:=(cB.kept eO).put K2 (se.mono λb af aA=>by rcases aA with aA|aA;exact aA.1;simp at aA;exact⟨⟨by omega,by omega⟩,by omega⟩);have Fp:=I Ms;have tN:=uy.kept eO;have TT:=I (tN.far (p:=⟨G,k*5+4,none⟩) (by simp only;omega) (.slice eR (ht s2 gE).length rc));have z93:=tN.cell;have l93:=tN.lt;have f3:=(cB.kept eO).frozen (k*5+4);have lG3:=(cB.kept eO).lt;have m43:=(cB.kept eO).at_ K2 (k:=4) rfl;have RH:=eO.size;clear se bF tN eO Ms)
   all_goals
    go_wp2_with fail
    go_meet;exact⟨rfl,_,Fp,TT,(sG.kept gO).far (p:=⟨G,k*5+4,none⟩) (by simp only;omega) _,(rY.kept gO).wC (p:=⟨G,k*5+4,none⟩) (λh=>h.2 rfl),(hk.trans gO).setCell (p:=⟨G,k*5+4,none⟩) (by simp only;omega) _,by simp;omega⟩
  obtain⟨rfl,u2,Mr,IV,IU,B6,gj,asJ⟩:=hcut;generalize wc=mn at*;have eM:(cc.set k (⟨s2.aM,s2.ms,s2.ins,s2.ds,ht s2 gE⟩,Tc,Tb,u2)).map (·.1)=(l.sc.set i (mD s (ht s own))).set k (mD s2 (ht s2 gE)):=by rw[Kg,yp];rfl
  have ze:(cc.set k (⟨s2.aM,s2.ms,s2.ins,s2.ds,ht s2 gE⟩,Tc,Tb,u2)).length=n:=by rw[gJ];exact Fw
  have yp:=I eM;have Fw:=I ze;clear eM ze m0 m1 m2 m3 m4 vP;have cB:=I Mr;have sG:=I IU;have rY:=I B6;have hk:=I gj;obtain⟨ri,xG⟩:=IV.p;obtain⟨hV,mB,f8⟩:=IU.q;clear Mr IV IU B6 gj;go_upto_region 8 with fail
  have Ci:¬(N<=w.heap.size+1/\w.heap.size+1≠g9):=λh=>by have:=h.1;omega
  have Cj:w.heap.size+1≠G:=by omega
  have Cq:¬((ok (w.heap.size+1)/\w.heap.size+1≠g9)/\w.heap.size+1≠G):=λh=>by have:=HLO.out _ h.1.1;omega
  have cE:=I (((sG.ba 0 (ae k9 l.bs fc)).ba 1 (ae mK l.tb ka)).ba 2 (ae (some (G,0)) n c)).cell;have Ub:=I (((cB.far (p:=⟨w.heap.size+1,0,none⟩) Ci Cj (ae k9 l.bs fc)).far (p:=⟨w.heap.size+1,1,none⟩) Ci Cj (ae mK l.tb ka)).far (p:=⟨w.heap.size+1,2,none⟩) Ci Cj (ae (some (G,0)) n c));have Ky:=I (((rY.wC (p:=⟨w.heap.size+1,0,none⟩) (u:=ae k9 l.bs fc) Cq).wC (p:=⟨w.heap.size+1,1,none⟩) (u:=ae mK l.tb ka) Cq).wC (p:=⟨w.heap.size+1,2,none⟩) (u:=ae (some (G,0)) n c) Cq);have T9:=I (((hk.setCell (p:=⟨w.heap.size+1,0,none⟩) (pG _) (ae k9 l.bs fc)).setCell (p:=⟨w.heap.size+1,1,none⟩) (pG _) (ae mK l.tb ka)).setCell (p:=⟨w.heap.size+1,2,none⟩) (pG _) (ae (some (G,0)) n c));clear Ci Cj Cq;go_wp2_with fail
  have e5:=cE.out;refine bI (v:=aF #[ae k9 l.bs fc,ae mK l.tb ka,ae (some (G,0)) n c]) (by simp[results,results10,go_sem,e5]) rfl ?_;exact⟨_,rfl,⟨_,_,_,rfl,by rw[aX];exact Ky.now.1,by rw[aX];exact Ky.now.2,by rw[cW,<-yp];exact Ub.sc (by rw[Fw];exact jL) Fw.symm uR⟩,T9⟩
def abM{α:Type}(l:List α)(p:α->Bool){f:α->J}:((l.filter p).map f).length<=l.length:=by rw[er];exact nX _ _
structure aaz(l:cO)(i:aa)(s:cq)(c:gl)(d:J)(ns:List cl):Prop where
 wf:vw [] ns
 aE:ns[0]?=some ⟨1,0,-1,d,(eD l (i:J) c d).cf,(eD l (i:J) c d).v⟩
 len:ns.length<=1000000
 Iy:∀n∈ns,n.m<=8796093022208/\n.cQ<=8796093022208
 own:(e_ (pA ns)).length<=1000000
 t':(e_ (pw ns)).length<=1000000
 red:(eD (j_ l i s (e_ (pA ns)) (e_ (pw ns))) (i:J) c d).c=0/\(eD (j_ l i s (e_ (pA ns)) (e_ (pw ns))) (i:J) c d).v=(eD l (i:J) c d).v
 cf:qV (j_ l i s (e_ (pA ns)) (e_ (pw ns)))<=qV l
 ej:qV l<=1000000
def apt{l:List aa}{B:aa}(h:∀x∈l,x<=B):l.sum<=l.length*B:=by
 induction l with
 |nil=>simp
 |cons x l bO=>
  have ab:=bO λy bZ=>h y (by simp[bZ]);have ad:=h x (by simp);rw[Dd,hi,Hn];omega
def lx.ej{l:cO}(h:lx l):qV l<=1000000:=by
 unfold qV;have ab:(l.sc.map (·.rs.length)).sum<=(l.sc.map (·.rs.length)).length*1000:=apt λx aj=>by
  obtain⟨s,aO,rfl⟩:=o3.1 aj;have:=(h.sc.small aO).1.1;omega
 rw[er]at ab;have:=h.sc.aD;omega
def aeP(l:aW)(av:l.length<=1000000):(e_ l).length<=1000000:=by
 have:=AY l;omega
def afa{w:ag}{l:cO}{i:aa}{s:cq}{c:gl}{d:J}{E T S mj M:ak}(aD:l.sc[i]?=some s)(he:(eD l (i:J) c d).c=0)(bE:h1 w (aF #[E,T,S]) l)(b6:ft w mj c.ins)(bN:kh w M c.mem)(fB:c.ins.length<=9223372036854775807)(h3:Mon w):aaz l i s c d (oc l s c d):=by
 have bk:=adq (d:=d) aD he bE b6 bN fB h3;have a1:=kd.of aD he;have hu:=bk.S3;have hrk:=aek bk d;have asD:na l s (-1) d<=30:=hrk;obtain⟨ab,ad⟩:=a1.exn (F:=na l s (-1) d+1) (Kd _);have hlen:(oc l s c d).length<=1000000:=by
  have ao:=bk.YS (na l s (-1) d+1) [] (-1) d 0 (Kd _) (.inl ⟨rfl,.inl rfl⟩);have aR:=YT (K:=6144) (U:=zv l s c) (oc l s c d);have bw:lM 6144 (zv l s c) (oc l s c d)<=lM 6144 (zv l s c) []+1:=ao;have eL:(zv l s c).length<=108:=hu;have hX:lM 6144 (zv l s c) []<=6144*108:=by
   unfold lM AZ;have:=nX (λp:J×J=> !gf [] p.1 p.2) (zv l s c);simp only[sB];omega
  omega
 obtain⟨aK,-,xA,pt⟩:=bk.own (d:=d) (.inl ⟨rfl,.inl rfl⟩);have hv':eD l (i:J) c d=iE l s c (-1) d:=aK;obtain⟨vp,aO⟩:=apo (yR l s c) (na l s (-1) d) (-1) d 0;have aE:(oc l s c d)[0]?=some ⟨1,0,-1,d,(eD l (i:J) c d).cf,(eD l (i:J) c d).v⟩:=by
  unfold oc;rw[aO,hv'];rfl
 have hsh:=(a1.ok:lx l).short;have af:=Zi a1.Mb (Q:=λn=>n.m<=8796093022208/\n.cQ<=8796093022208)
  (λm fp _ _ _ _ al=>by have:=bk.G3 (m:=m) (d:=fp) al;exact⟨by show m<=_;omega,by show fp<=_;omega⟩)
  (λm fp al r aC _ _ _ _=>⟨by have:=bk.G3 (m:=m) (d:=fp) al;show m<=_;omega,a1.anW (by have:=hsh.tb;omega) (λs aO=>by have:=hsh.ins s aO;omega) al aC⟩)
  (na l s (-1) d+1) [] (-1) d 0 (Kd _) (.inl ⟨rfl,.inl rfl⟩) (λn aH=>by cases aH)
 have aA:Py (oc l s c d) (e_ (pA (oc l s c d))):=anD λq=>Et;have hm:Pt (oc l s c d) (e_ (pw (oc l s c d))):=amB λq=>Et;refine⟨ad,aE,hlen,af,aeP _ (fN (abM _ _) hlen),aeP _ (fN (abM _ _) hlen),anR aD he ab aA hm,(Zc (l:=l) _ _ aD).rules,(a1.ok:lx l).ej⟩
def aep(l:cO)(sc:J)(c:gl)(d:J)(w:ag)(e:Ending)(w':ag):Prop:=
 ((eD l sc c d).c≠0->∃a b f:J,e=bL (bj #[aF #[(),(),()],aF #[ah (eD l sc c d).c,a,b,f]])/\lV (eD l sc c d).c (eD l sc c d).m (eD l sc c d).d (eD l sc c d).r a b f)/\
 ((eD l sc c d).c=0->e=bL (bj #[aF #[ah (eD l sc c d).v.k,ah (eD l sc c d).v.e,ah (eD l sc c d).v.n],aF #[(),(),(),()]]))/\Kept w w'
def ahB(w:ag)(wA vh vi CN:ho)(t4 t6 t8 t9:dC):Kept w ((((w.alloc (.cells wA t4)).alloc (.cells vh t6)).alloc (.cells vi t8)).alloc (.cells CN t9))/\aB ((((w.alloc (.cells wA t4)).alloc (.cells vh t6)).alloc (.cells vi t8)).alloc (.cells CN t9)) w t4 wA/\aB ((((w.alloc (.cells wA t4)).alloc (.cells vh t6)).alloc (.cells vi t8)).alloc (.cells CN t9)) (w.heap.size+1) t6 vh/\aB ((((w.alloc (.cells wA t4)).alloc (.cells vh t6)).alloc (.cells vi t8)).alloc (.cells CN t9)) (w.heap.size+1+1) t8 vi/\aB ((((w.alloc (.cells wA t4)).alloc (.cells vh t6)).alloc (.cells vi t8)).alloc (.cells CN t9)) (w.heap.size+1+1+1) t9 CN:=by
 refine⟨((((aG w).alloc _).alloc _).alloc _).alloc _,(((aB.new w t4 wA).alloc _).alloc _).alloc _,?_,?_,?_⟩
 .have:=((aB.new (w.alloc (.cells wA t4)) t6 vh).alloc (.cells vi t8)).alloc (.cells CN t9);simpa using this
 .have:=(aB.new ((w.alloc (.cells wA t4)).alloc (.cells vh t6)) t8 vi).alloc (.cells CN t9);simpa using this
 .have:=aB.new (((w.alloc (.cells wA t4)).alloc (.cells vh t6)).alloc (.cells vi t8)) t9 CN;simpa using this
def SM{w X:ag}{g h T BB:aa}{bX eU z0 a0 kD cK d0:ak}(B:aB X g T #[bX,eU,z0])(D:aB X h BB #[a0,kD,cK,d0])(bU:g≠h)(ai:Kept w X)(al:w<=g)(aT:w<=h)(x y z a b c d:ak):
  aB (((((((X.setCell (g,0) x).setCell (g,1) y).setCell (g,2) z).setCell (h,0) a).setCell (h,1) b).setCell (h,2) c).setCell (h,3) d) g T #[x,y,z]/\
  aB (((((((X.setCell (g,0) x).setCell (g,1) y).setCell (g,2) z).setCell (h,0) a).setCell (h,1) b).setCell (h,2) c).setCell (h,3) d) h BB #[a,b,c,d]/\
  Kept w (((((((X.setCell (g,0) x).setCell (g,1) y).setCell (g,2) z).setCell (h,0) a).setCell (h,1) b).setCell (h,2) c).setCell (h,3) d):=by
 have ab:aB (((X.setCell ⟨g,0,none⟩ x).setCell ⟨g,1,none⟩ y).setCell ⟨g,2,none⟩ z) g T #[x,y,z]:=by
  have:=((B.ba 0 x).ba 1 y).ba 2 z;simpa using this
 have ad:=((D.far (p:=⟨g,0,none⟩) bU.symm x).far (p:=⟨g,1,none⟩) bU.symm y).far (p:=⟨g,2,none⟩) bU.symm z;refine⟨(((ab.far (p:=⟨h,0,none⟩) bU a).far (p:=⟨h,1,none⟩) bU b).far (p:=⟨h,2,none⟩) bU c).far (p:=⟨h,3,none⟩) bU d,?_,?_⟩
 .have:=(((ad.ba 0 a).ba 1 b).ba 2 c).ba 3 d;simpa using this
 .repeat refine Kept.setCell ?_ (by simp only;omega) _
  exact ai
def aeq{w X:ag}{g h T BB:aa}{bX eU z0 a0 kD cK d0:ak}(B:aB X g T #[bX,eU,z0])(D:aB X h BB #[a0,kD,cK,d0])(bU:g≠h)(ai:Kept w X)(al:w<=g)(aT:w<=h)(x y z a b c d:ak):
  aB (((((((X.setCell (h,0) a).setCell (h,1) b).setCell (h,2) c).setCell (h,3) d).setCell (g,0) x).setCell (g,1) y).setCell (g,2) z) g T #[x,y,z]/\
  aB (((((((X.setCell (h,0) a).setCell (h,1) b).setCell (h,2) c).setCell (h,3) d).setCell (g,0) x).setCell (g,1) y).setCell (g,2) z) h BB #[a,b,c,d]/\
  Kept w (((((((X.setCell (h,0) a).setCell (h,1) b).setCell (h,2) c).setCell (h,3) d).setCell (g,0) x).setCell (g,1) y).setCell (g,2) z):=by
 have ab:aB ((((X.setCell ⟨h,0,none⟩ a).setCell ⟨h,1,none⟩ b).setCell ⟨h,2,none⟩ c).setCell ⟨h,3,none⟩ d) h BB #[a,b,c,d]:=by
  have:=(((D.ba 0 a).ba 1 b).ba 2 c).ba 3 d;simpa using this
 have ad:=(((B.far (p:=⟨h,0,none⟩) bU a).far (p:=⟨h,1,none⟩) bU b).far (p:=⟨h,2,none⟩) bU c).far (p:=⟨h,3,none⟩) bU d;refine⟨?_,((ab.far (p:=⟨g,0,none⟩) bU.symm x).far (p:=⟨g,1,none⟩) bU.symm y).far (p:=⟨g,2,none⟩) bU.symm z,?_⟩
 .have:=((ad.ba 0 x).ba 1 y).ba 2 z;simpa using this
 .repeat refine Kept.setCell ?_ (by simp only;omega) _
  exact ai
def aoa{w X:ag}{h BB:aa}{a0 kD cK d0:ak}(D:aB X h BB #[a0,kD,cK,d0])(ai:Kept w X)(aT:w<=h)(a b c d:ak):
  aB ((((X.setCell (h,0) a).setCell (h,1) b).setCell (h,2) c).setCell (h,3) d) h BB #[a,b,c,d]/\Kept w ((((X.setCell (h,0) a).setCell (h,1) b).setCell (h,2) c).setCell (h,3) d):=by
 refine⟨?_,?_⟩
 .have:=(((D.ba 0 a).ba 1 b).ba 2 c).ba 3 d;simpa using this
 .repeat refine Kept.setCell ?_ (by simp only;omega) _
  exact ai
def aee(cm gX hn:ak)(l:cO)(sc d:J)(c:gl)(w:ag)(bE:h1 w cm l)(b6:ft w gX c.ins)(bN:kh w hn c.mem)(fB:c.ins.length<=9223372036854775807)(h3:Mon w):
  bg 11 #[cm,sc,aF #[c.d,gX,hn],d] w (aep l sc c d w):=by
 have mi:=I (λw1(h:Kept w w1)=>Qz cm gX hn l sc d c w1 (bE.kept h) (b6.kept h) (bN.kept h) fB (h3.kept h));have Fk:=I (λw1(h:Kept w w1)=>bb (bE.kept h) (bb (b6.kept h) (bb (bN.kept h) (h3.kept h))));have vO:=I fB;unfold VU at mi;unfold aep;obtain⟨dw,cM,cH,rfl,ar,ab,ad⟩:=bE;obtain⟨c5,eW,rfl,-⟩:=ar;obtain⟨cV,cX,rfl,-⟩:=ab;obtain⟨hM,fJ,rfl,-⟩:=ad;obtain⟨eh,fR,rfl,-⟩:=b6;obtain⟨ff,ih,rfl,-⟩:=bN;generalize uX:l.bs.length=dS at*;generalize wb:l.tb.length=dd at*;generalize ot:l.sc.length=fO at*;generalize s7:c.ins.length=cC at*;generalize p2:c.mem.length=eE at*;have q6:=I s7;clear h3 fB uX wb ot s7 p2;obtain⟨aV,fH,e7,ga,iw⟩:=ahB w #[ae c5 dS eW,ae cV dd cX,ae hM fO fJ] #[c.d,ae eh cC fR,ae ff eE ih] #[(),(),()] #[(),(),(),()] 26 30 34 37;by_cases aq:(eD l sc c d).c=0
 case neg=>
  have bS:=I (λw1(h:Kept w w1)=>(mi w1 h).mono (R':=λe w'=>∃a b f:J,e=bL (bj #[bf,aF #[ah (eD l sc c d).c,a,b,f]])/\lV (eD l sc c d).c (eD l sc c d).m (eD l sc c d).d (eD l sc c d).r a b f/\Kept w1 w') (λe w' aT=>by obtain⟨a,b,f,ab,ad⟩:=aT.1 aq;exact⟨a,b,f,ab,ad,aT.2.2⟩));clear mi;have jv:((eD l sc c d).c !=0)=true:=by simpa using aq
  have ct:=I aq;generalize (eD l sc c d).c=cF at*;clear aq;go_enter func11,ntmps11
  go_upto_region 1 with fail
  generalize (((w.alloc (.cells #[ae c5 dS eW,ae cV dd cX,ae hM fO fJ] 26)).alloc (.cells #[c.d,ae eh cC fR,ae ff eE ih] 30)).alloc (.cells #[(),(),()] 34)).alloc (.cells #[(),(),(),()] 37)=W at*;have e8:=I aV;have sG:=I ga;have uy:=I iw;have Rn:w.heap.size+1+1+1<W:=iw.lt;obtain⟨b4,gz⟩:=fH.p;obtain⟨dn,fq⟩:=e7.p;clear fH e7 ga iw aV;go_upto_region 2 with (go_at_call 7;refine (bS _ e8).mono ?_;rintro aQ w1⟨a,b,f,rfl,jn,au⟩;have sL:=I jn;have dA:=I au;clear jn au)
  generalize aL:w1.alloc _=V at*;obtain⟨hz,g_⟩:=Kept.aQ aL;clear aL;have du:=dA.trans hz;have rA:=dA.size;clear hz;generalize w1.heap.size=g11 at*;have akv:g11≠w.heap.size+1+1:=by omega
  have Rs:g11≠w.heap.size+1+1+1:=by omega
  have akw:w.heap.size+1+1≠g11:=by omega
  have akx:w.heap.size+1+1+1≠g11:=by omega
  have hb:=sG.kept du;have kl:=uy.kept du;obtain⟨atA,El⟩:=g_.p;obtain⟨hV,mB,f8⟩:=hb.q;obtain⟨ri,xG,f9⟩:=kl.q;have eQ:=I (SM hb kl (by omega) (e8.trans du) (by omega) (by omega) () () () cF a b f);have dP:=I (aeq hb kl (by omega) (e8.trans du) (by omega) (by omega) () () () cF a b f);clear b4 gz dn fq hb kl g_ du;go_upto_region 3 with fail
  go_region
  all_goals
   go_wp2_with fail
   first
    |(have FW:=eQ.1.cell;have FX:=eQ.2.1.cell;exact bI (v:=bj #[aF #[(),(),()],aF #[cF,a,b,f]]) (by simp[results,results11,go_sem,FW,FX]) rfl ⟨λ_=>⟨a,b,f,rfl,sL⟩,λh=>absurd h ct,by first|with_reducible exact eQ.out.2.2.drew|with_reducible exact eQ.out.2.2⟩)
    |(have FW:=dP.1.cell;have FX:=dP.2.1.cell;exact bI (v:=bj #[aF #[(),(),()],aF #[cF,a,b,f]]) (by simp[results,results11,go_sem,FW,FX]) rfl ⟨λ_=>⟨a,b,f,rfl,sL⟩,λh=>absurd h ct,by first|with_reducible exact dP.out.2.2.drew|with_reducible exact dP.out.2.2⟩)
 case pos=>
  obtain⟨i,s,rfl,aD,tX⟩:∃(i:aa)(s:cq),sc=i/\l.sc[i]?=some s/\EO l sc=s:=by
   obtain⟨ab,⟨⟨ad,V'⟩,ao⟩,aR⟩:=FK (IK aq);obtain⟨i,rfl⟩:∃i:aa,sc=i:=⟨sc.toNat,by omega⟩;have al:=bn (l:=l.sc) (i:=i) (by omega);exact⟨i,_,rfl,al,by unfold EO;rw[c7,al,b9]⟩
  obtain⟨bd,a8,dI,dk⟩:=Fk.out w (aG w);have Lj:=afa (d:=d) aD aq bd a8 dI (by rw[q6];exact vO) dk;have eG:=(kd.of aD aq).ok;have bk:∀w1,Kept w w1->bg 7 #[aF #[ae c5 dS eW,ae cV dd cX,ae hM fO fJ],ah (i:J),aF #[c.d,ae eh cC fR,ae ff eE ih],d] w1 (λe w'=>∃u,e=bL (bj #[u,aF #[(),(),(),()]])/\hP w' qe 8 u (oc l s c d)/\Kept w1 w'):=λw1 h=>(mi w1 h).mono λe w' aT=>by
   obtain⟨u,ab,ad⟩:=aT.2.1 aq;rw[tX]at ad;exact⟨u,ab,ad,aT.2.2⟩
  have bS:=I bk;have tG:=I (λ(u:ak)w1(h:hP w1 qe 8 u (oc l s c d))=>aes u _ w1 h Lj.len);unfold S5 at tG;have xB:=Lj.red;have cN:=Lj.own;have Xf:=Lj.t';obtain⟨xa,Wv⟩:∃x,x=e_ (pA (oc l s c d)):=⟨_,rfl⟩;obtain⟨Ps,F'⟩:∃x,x=e_ (pw (oc l s c d)):=⟨_,rfl⟩;rw[<-Wv,<-F']at tG xB;rw[<-Wv]at cN;rw[<-F']at Xf;have o8:=I (λ(u1 u2:ak)w1(h:Kept w w1)(ab:gw w1 u1 xa)(ad:gw w1 u2 Ps)=>acX _ u1 u2 l i s xa Ps w1 (bd.kept h) eG aD ab ad cN Xf);unfold R5 at o8;obtain⟨⟨cg,bK,dR⟩,c6⟩:∃V:bC,V=(eD l (i:J) c d).v:=⟨_,rfl⟩;rw[<-c6]at xB;have a1:∀(u:ak)w1,h1 w1 u (j_ l i s xa Ps)->Kept w w1->bg 6 #[u,ah (i:J),aF #[c.d,ae eh cC fR,ae ff eE ih],d] w1 (λe w'=>∃cf:J,e=bL (bj #[aF #[cg,bK,dR],cf,aF #[(),(),(),()]])/\Kept w1 w'):=λu w1 hu h=>by
   have Gj:=F2 u _ _ (j_ l i s xa Ps) i d c w1 hu (a8.kept h) (dI.kept h) (by rw[q6];exact vO) (dk.kept h);refine Gj.mono λe w' aT=> ?_;obtain⟨a,b,f,ab,ad,ao⟩:=aT;rw[xB.1]at ab ad;obtain⟨rfl,rfl,rfl⟩:=ad.1 rfl;rw[xB.2]at ab;exact⟨_,ab,ao⟩
  refine Calls.mono (R:=λe w'=>e=bL (bj #[aF #[cg,bK,dR],aF #[(),(),(),()]])/\Kept w w') ?_ (λe w' aT=>⟨λh=>absurd aq h,λ_=>by rw[aT.1,<-c6],aT.2⟩);clear c6;have cW:=I a1;clear mi bk a1 xB cN Xf aq Lj;clear bd a8 dI dk eG Wv F' tX;go_enter func11,ntmps11
  go_upto_region 1 with fail
  generalize (((w.alloc (.cells #[ae c5 dS eW,ae cV dd cX,ae hM fO fJ] 26)).alloc (.cells #[c.d,ae eh cC fR,ae ff eE ih] 30)).alloc (.cells #[(),(),()] 34)).alloc (.cells #[(),(),(),()] 37)=W at*;have e8:=I aV;have sG:=I ga;have uy:=I iw;have Rn:w.heap.size+1+1+1<W:=iw.lt;have j4:=I fH;have sF:=I e7;obtain⟨b4,gz⟩:=fH.p;obtain⟨dn,fq⟩:=e7.p;clear fH e7 ga iw aV;go_upto_region 2 with (go_at_call 7;refine (bS _ e8).mono ?_;rintro aQ w1⟨u,rfl,hu,au⟩;have pa:=I hu;have dA:=I au;obtain⟨kR,eg,rfl,-⟩:=hu;clear au)
  have du:=dA.alloc (.cells #[(),(),(),()] 37);have rA:=dA.size;have g_:=aB.new w1 37 #[(),(),(),()];have HUV:=I (pa.kept ((aG w1).alloc (.cells #[(),(),(),()] 37)));generalize w1.alloc (.cells #[(),(),(),()] 37)=V at*;generalize w1.heap.size=g11 at*;have iS:=I du;have uz:=I g_;obtain⟨atA,El⟩:=g_.p;clear b4 gz dn fq du g_;go_upto_region 5 with (go_at_call 9;refine (tG _ _ HUV).mono ?_;rintro a_ w2⟨u1,u2,rfl,MX,W1,bt⟩;have hk:=I bt;have O2:=I (bb MX W1);clear MX W1 bt)
  have Pp:=iS.trans hk;have eF:=I (show∀c_,Kept W c_->(aU c_ (w,0)=some (ae c5 dS eW)/\aU c_ (w,1)=some (ae cV dd cX)/\aU c_ (w,2)=some (ae hM fO fJ)/\aU c_ (w.heap.size+1,0)=some (ah c.d)/\aU c_ (w.heap.size+1,1)=some (ae eh cC fR)/\aU c_ (w.heap.size+1,2)=some (ae ff eE ih))from λc_ h=>⟨(j4.kept h).cell 0,(j4.kept h).cell 1,(j4.kept h).cell 2,(sF.kept h).cell 0,(sF.kept h).cell 1,(sF.kept h).cell 2⟩);have af9:=I (λX(h:Kept w2 X)=>o8 u1 u2 X ((e8.trans Pp).trans h) (O2.1.kept h) (O2.2.kept h));have mT:=hk.size;obtain⟨dX,dM,dQ,fP,kW,zr⟩:=eF.out w2 Pp;have kS:g11<w2:=bG El mT;have Rh:g11≠w2.heap.size:=by omega
  have ar0:w2.heap.size≠g11:=by omega
  clear atA;go_cut [14,15]from 16 to 46 (λx y cj=>∃(mN:aa)(cf:J),x= .pointer (some (mN,0))/\y=ah cf/\aB cj mN 34 #[cg,bK,dR]/\aB cj g11 37 #[(),(),(),()]/\Kept W cj/\W<=mN)
  case first=>
   go_region_held3 (λc_=>aU c_ (w,0)=some (ae c5 dS eW)/\aU c_ (w,1)=some (ae cV dd cX)/\aU c_ (w,2)=some (ae hM fO fJ)/\aU c_ (w.heap.size+1,0)=some (ah c.d)/\aU c_ (w.heap.size+1,1)=some (ae eh cC fR)/\aU c_ (w.heap.size+1,2)=some (ae ff eE ih))
    ((first|(with_reducible assumption)|(refine eF.out _ ?_;(with_reducible repeat (first|exact .refl _|assumption|refine .drew ?_|refine .alloc ?_ _|refine .setCell ?_ (by (try simp only)<;>(try simp)<;>omega) _|refine .trans ?_ ‹Kept _ _›));done)))
    ((first
     |(go_at_call 10;refine (af9 _ ?_).mono ?_;(·(with_reducible first|exact (aG _).drew|exact (aG _).aZ.drew));rintro ko c4⟨u5,rfl,hu5,cy⟩;have UD:Kept w2 c4:=(by (with_reducible first|exact (aG _).drew.trans cy|exact (aG _).aZ.drew.trans cy));have T6:=I UD;have RI:=UD.size;(try (have a7:=aB.kept (aB.drew (aB.new w2 34 #[(),(),()])) cy;have Wf:=a7.cell;have B3:=a7.frozen;have QG:=a7.lt));have HE5:=I (λX(h:Kept c4 X)=>cW u5 X (hu5.kept h) (((e8.trans Pp).trans T6).trans h));clear hu5 UD)
     |(go_at_call 6;refine (HE5 _ ?_).mono ?_;(·(with_reducible first|exact .refl _|exact (aG _).aZ));rintro qB dc⟨cf,rfl,ey⟩;have Pn:Kept c4 dc:=(by (with_reducible first|exact ey|exact (aG _).aZ.trans ey));have af8:=I (T6.trans Pn);have u':=Pn.size;(try (have hC:=aB.kept a7 ey;have mO:=hC.cell;have qD:=hC.frozen;have Wl:=hC.lt));(try (have bc:=aB.kept (aB.new c4 34 #[(),(),()]) ey;have od:=bc.cell;have im:=bc.frozen;have rp:=bc.lt));have uK:=(uz.kept hk).kept (T6.trans Pn);have Fh:=I uK;have DL:=uK.cell;have AK:=uK.lt;have arx:=uK.frozen;clear uK Pn)))
   all_goals
    rename_i hHeld;clear hHeld;go_wp2_with fail
    go_meet;have Gp:=Pp.trans af8;have aR:=aoa Fh Gp rA () () () ()
    first
     |(have hX:=SM hC Fh (by omega) Gp (by omega) rA cg bK dR () () () ();exact⟨_,_,rfl,rfl,hX.1,hX.2.1,hX.2.2,by omega⟩)
     |(have hX:=SM bc Fh (by omega) Gp (by omega) rA cg bK dR () () () ();exact⟨_,_,rfl,rfl,hX.1,hX.2.1,hX.2.2,by omega⟩)
     |exact⟨_,_,rfl,rfl,xi (by simp),aR.1.alloc _,aR.2.alloc _,by omega⟩
  obtain⟨mN,cf,rfl,rfl,LC,uK,aS,hgA⟩:=hcut;generalize wc=rf at*;obtain⟨avh,avv⟩:=LC.p;obtain⟨DL,AK⟩:=uK.p;have hb:=sG.kept aS;have kl:=uy.kept aS;obtain⟨hV,mB,f8⟩:=hb.q;obtain⟨ri,xG,f9⟩:=kl.q;have akv:g11≠w.heap.size+1+1:=by omega
  have Rs:g11≠w.heap.size+1+1+1:=by omega
  have akw:w.heap.size+1+1≠g11:=by omega
  have akx:w.heap.size+1+1+1≠g11:=by omega
  have asn:mN≠w.heap.size+1+1:=by omega
  have aso:mN≠w.heap.size+1+1+1:=by omega
  have asp:w.heap.size+1+1≠mN:=by omega
  have asq:w.heap.size+1+1+1≠mN:=by omega
  have eQ:=I (SM hb kl (by omega) (e8.trans aS) (by omega) (by omega) cg bK dR () () () ());have dP:=I (aeq hb kl (by omega) (e8.trans aS) (by omega) (by omega) cg bK dR () () () ());clear hb kl LC uK aS dX dM dQ fP kW zr;go_upto_region 6 with fail
  go_region
  all_goals
   go_wp2_with fail
   first
    |(have FW:=eQ.1.cell;have FX:=eQ.2.1.cell;exact bI (v:=bj #[aF #[cg,bK,dR],aF #[(),(),(),()]]) (by simp[results,results11,go_sem,FW,FX]) rfl ⟨rfl,by first|with_reducible exact eQ.out.2.2.drew|with_reducible exact eQ.out.2.2⟩)
    |(have FW:=dP.1.cell;have FX:=dP.2.1.cell;exact bI (v:=bj #[aF #[cg,bK,dR],aF #[(),(),(),()]]) (by simp[results,results11,go_sem,FW,FX]) rfl ⟨rfl,by first|with_reducible exact dP.out.2.2.drew|with_reducible exact dP.out.2.2⟩)
def apD{tq b7:ak}{w:ag}(bE:h1 w tq (nz oX))(b6:ft w b7 [⟨3,0,500⟩])(h3:Mon w):bg 7 #[tq,(),aF #[(),b7,bf],()] w (λe w'=>∃b o cK,e=bL (bj #[ae (some ⟨b,o,none⟩) 2 cK,aF #[(),(),(),()]])/\b<w'.heap.size/\aU w' ⟨b,o+7,none⟩=some (ah 500)/\Kept w w'):=by
 have h:=Qz tq b7 bf (nz oX) 0 0 ER w bE b6 (kh.nil w) (by simp[ER]) h3;refine Calls.mono h λe w' aT=> ?_;obtain⟨-,ab,ad⟩:=aT;obtain⟨u,ao,aR⟩:=ab (by rw[Zu]);have aj:oc (nz oX) (EO (nz oX) 0) ER 0=[⟨1,0,-1,0,0,⟨3,0,500⟩⟩,⟨2,1,-1,0,-1,⟨3,0,500⟩⟩]:=ap5;rw[aj]at aR;obtain⟨A,cap,rfl,aC⟩:=aR;obtain⟨b,o,rfl,af,aq⟩:=aC (by simp);exact⟨b,o,cap,ao,af,aq 0 _ rfl 7 _ rfl,ad⟩
def apF{tq b7:ak}{w:ag}(bE:h1 w tq (nz oX))(b6:ft w b7 [⟨3,0,500⟩])(h3:Mon w):bg 11 #[tq,(),aF #[(),b7,bf],()] w (λe w'=>e=bL (bj #[aF #[ah 3,(),ah 500],aF #[(),(),(),()]])/\Kept w w'):=by
 have h:=aee tq b7 bf (nz oX) 0 0 ER w bE b6 (kh.nil w) (by simp[ER]) h3;refine Calls.mono h λe w' aT=> ?_;obtain⟨-,ab,ad⟩:=aT;have ao:=ab (by rw[Zu]);rw[Zu]at ao;exact⟨ao,ad⟩
def aaR(w:ag)(h3:Mon w):bg 5 #[] w (λe w'=>e=bL (bR true)/\Kept w w'):=by
 have dY:=I (λw1=>aly w1);have ct:=I (λw1=>alx 500 w1);unfold ae4 at dY;unfold ae3 at ct;have bS:=I (λ(tq b7:ak)w1(bE:h1 w1 tq (nz oX))(b6:ft w1 b7 [⟨3,0,500⟩])(h:Kept w w1)=>apD bE b6 (h3.kept h));have aX:=I (λ(tq b7:ak)w1(bE:h1 w1 tq (nz oX))(b6:ft w1 b7 [⟨3,0,500⟩])(h:Kept w w1)=>apF bE b6 (h3.kept h));go_enter func5,ntmps5
 go_upto_region 2 with (first
  |(go_at_call 15;refine (dY _).mono ?_;rintro aQ w1⟨g1,rfl,yW,au⟩;have HI:=I yW;have dA:=I au;clear yW au)
  |(go_at_call 16;refine (ct _).mono ?_;rintro a_ w2⟨g2,rfl,I1,bt⟩;have O2:=I I1;have HL2:=I (HI.kept bt);have hk:=I (dA.trans bt);clear I1 bt)
  |(go_at_call 7;refine (bS _ _ _ HL2 O2 hk).mono ?_;rintro cv ch⟨b,o,cK,rfl,af,aq,bF⟩;have gO:=I (hk.trans bF);clear bF))
 generalize aL:ch.alloc _=V at*;obtain⟨du,Km⟩:=Kept.aQ aL;clear aL;have Pk:=I (du.aI af aq);have hbV:=bG af du.size;have jG:=I (gO.trans du);have OR:=I Km;clear af aq Km du;generalize ch.heap.size=g2 at*;go_upto_region 3 with (first
  |(go_at_call 15;refine (dY _).mono ?_;rintro h_ eK⟨g4,rfl,hL4,ck⟩;have n4:=I hL4;have wT:=I ck;clear hL4 ck)
  |(go_at_call 16;refine (ct _).mono ?_;rintro ko c4⟨g5,rfl,hI5,cy⟩;have HI5:=I hI5;have Fj:=I (n4.kept cy);have o7:=I (wT.trans cy);clear hI5 cy)
  |(go_at_call 11;refine (aX _ _ _ Fj HI5 (jG.trans o7)).mono ?_;rintro qB dc⟨rfl,ey⟩;have lX:=I (o7.trans ey);clear ey))
 obtain⟨cP,fH⟩:=(aG ((dc.alloc (.cells #[ah 3,(),ah 500] 34)).alloc (.cells #[(),(),(),()] 37))).PX;have q_:=(lX.alloc (.cells #[ah 3,(),ah 500] 34)).alloc (.cells #[(),(),(),()] 37);generalize (dc.alloc (.cells #[ah 3,(),ah 500] 34)).alloc (.cells #[(),(),(),()] 37)=Z at*;have bW:=OR.kept q_;obtain⟨a',b5⟩:=bW.p;obtain⟨bu,dW⟩:=cP.p;obtain⟨b4,gz⟩:=fH.p;have hx7:=q_.aI hbV Pk;have hbz:=bG hbV q_.size;have wU:=I (jG.trans q_);clear bW cP fH q_;go_wp2_with fail
 go_ret;exact⟨rfl,wU⟩
end Go.Proofs.YtilhklpfkgbikaaGreatDoor
