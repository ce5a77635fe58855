import Derived.Test.YtilhklpfkgbikaaGreatDoorM
set_option linter.all false
namespace Go.Proofs.YtilhklpfkgbikaaGreatDoor
open Go.RowKit Go.Proofs.Tryz
set_option maxRecDepth 100000
set_option maxHeartbeats 16000000
def Sv{o:J}{q:aa}{t:dh}{i:aa}{l:List (List bC)}{m:List bC}{acc:bC}(h:l[i]?=some m):mZ o q t i (l.drop i) acc=
  if m.length<=q\/(m[q]?.getD v0).k=0 then (v0,6)
  else if xq (m[q]?.getD v0) t.k t.e=false then (v0,8)
  else if o=36 then (if iv {acc with n:=acc.n+(m[q]?.getD v0).n} then mZ o q t (i+1) (l.drop (i+1)) {acc with n:=acc.n+(m[q]?.getD v0).n} else (v0,3))
  else if o=37 then mZ o q t (i+1) (l.drop (i+1)) {acc with n:=min acc.n (m[q]?.getD v0).n}
  else if o=38 then mZ o q t (i+1) (l.drop (i+1)) {acc with n:=max acc.n (m[q]?.getD v0).n}
  else if o=39 then mZ o q t (i+1) (l.drop (i+1)) (if i=0\/acc.n<(m[q]?.getD v0).n then m[q]?.getD v0 else acc)
  else mZ o q t (i+1) (l.drop (i+1)) acc:=by
 obtain⟨aD,rfl⟩:=b2 h;rw[jA aD,mZ]
def YN(r:bC×J)(w:ag)(e:Ending)(w':ag):Prop:=e=bL (bj #[aF #[r.1.k,r.1.e,r.1.n],r.2])/\Kept w w'
def j2{a b c d fI j7 fF fp:J}(h:((⟨a,b,c⟩:bC),d)=(⟨fI,j7,fF⟩,fp)):a=fI/\b=j7/\c=fF/\d=fp:=by simpa[and_assoc] using h
def Pu(n:J):Prop:= -2000000000000000<=n/\n<=2000000000000000
def anx(o:J)(aA:o=36\/o=37\/o=38\/o=39)(k:aa)(T:dh)(i:aa)(l:List (List bC))(m:List bC)(V acc:bC)(R:bC×J)(al:l[i]?=some m)(c6:m[k]?=some V)(ai:V.k≠0)(cr:xq V T.k T.e=true)(aC:mZ o k T i (l.drop i) acc=R):(o=36/\iv {acc with n:=acc.n+V.n}=true/\mZ o k T (i+1) (l.drop (i+1)) {acc with n:=acc.n+V.n}=R)\/(o=36/\iv {acc with n:=acc.n+V.n}=false/\R=(v0,3))\/
   (o=37/\mZ o k T (i+1) (l.drop (i+1)) {acc with n:=min acc.n V.n}=R)\/(o=38/\mZ o k T (i+1) (l.drop (i+1)) {acc with n:=max acc.n V.n}=R)\/
   (o=39/\(i=0\/acc.n<V.n)/\mZ o k T (i+1) (l.drop (i+1)) V=R)\/(o=39/\i≠0/\¬acc.n<V.n/\mZ o k T (i+1) (l.drop (i+1)) acc=R):=by
 rw[Sv al,c6,b9,aw (by have:=(b2 c6).1;omega),cr,aw (by decide)]at aC;rcases aA with rfl|rfl|rfl|rfl
 .rw[aP rfl]at aC;by_cases hp:iv {acc with n:=acc.n+V.n}=true
  .rw[aP hp]at aC;exact .inl ⟨rfl,hp,aC⟩
  .rw[aw hp]at aC;exact .inr (.inl ⟨rfl,by simpa using hp,aC.symm⟩)
 .rw[aw (by decide),aP rfl]at aC;exact .inr (.inr (.inl ⟨rfl,aC⟩))
 .rw[aw (by decide),aw (by decide),aP rfl]at aC;exact .inr (.inr (.inr (.inl ⟨rfl,aC⟩)))
 .rw[aw (by decide),aw (by decide),aw (by decide),aP rfl]at aC;by_cases hp:i=0\/acc.n<V.n
  .rw[aP hp]at aC;exact .inr (.inr (.inr (.inr (.inl ⟨rfl,hp,aC⟩))))
  .rw[aw hp]at aC;exact .inr (.inr (.inr (.inr (.inr ⟨rfl,λh=>hp (.inl h),λh=>hp (.inr h),aC⟩))))
def anw(o:J)(k:aa)(aA:o=36\/o=37\/o=38\/o=39)(bK:ak)(E:dT)(w:ag)(a1:je w bK E)(ai:k<E.mt.length):bg 173 #[aF #[o,k],bK] w (YN (CP ⟨o,k⟩ E) w):=by
 unfold YN;obtain⟨b7,dy,c1,cM,bv,rfl,ab,ad,ao,aR,bw⟩:=a1;obtain⟨dm,aY,rfl,-⟩:=ab.at_;obtain⟨dx,a',rfl,-⟩:=ad.at_;obtain⟨dq,bu,rfl,gp,bN⟩:=ao.at_;obtain⟨fr,b4,rfl,bT⟩:=aR.at_;obtain⟨e6,b_,rfl,-⟩:=bw.at_;obtain⟨ee,wA,rfl,Q1,zd⟩:=bT (by omega);have xu:E.mt[k]?=some E.mt[k]:=bn ai;obtain⟨eU,dr⟩:=zd k _ xu;have lF:(k:J)<E.mt.length:=by omega
 have si:CP ⟨o,k⟩ E=if o=39/\E.ms.length=0 then (v0,6)else mZ o k E.mt[k] 0 (E.ms.drop 0) ⟨E.mt[k].k,E.mt[k].e,if o=37 then 1 else 0⟩:=by
  unfold CP;simp only[c7,xu,b9,rS]
 obtain⟨R,aJ⟩:∃R,R=CP ⟨o,k⟩ E:=⟨_,rfl⟩;rw[<-aJ]at si⊢;clear aJ ab ad ao aR bw zd xu bT;generalize E.mt[k]=T at*;obtain⟨dt,ins,ds,ms,mt,tb⟩:=E;obtain⟨gH,gB⟩:=T;dsimp only at*;obtain⟨n,aH⟩:∃n,n=ms.length:=⟨_,rfl⟩;rw[<-aH]at si bN gp⊢;have b3:=I aH;have Ue:=I si;clear aH si;have Cp:(o==37)=true\/(o==37)=false:=by cases (o==37)<;>simp
 obtain⟨⟨cS,eo,di⟩,rc⟩:=R;go_enter func173,ntmps173
 go_upto_region 1 with fail
 generalize aL:((w.alloc _).alloc _).alloc _=W at*;obtain⟨aV,bo,bh,bm⟩:=Kept.cv aL;clear aL;have Ab:=aV.aI Q1 eU;have FI:=aV.aI Q1 dr;have arM:=bG Q1 aV.size;obtain⟨dX,cR⟩:=bo.p;obtain⟨dM,bq⟩:=bh.p;obtain⟨dQ,b5,zq⟩:=bm.q;clear eU dr;by_cases Wc:o=39/\n=0
 .obtain⟨rfl,rfl⟩:=Wc;obtain⟨rfl,rfl,rfl,rfl⟩:=j2 Ue;clear bN Cp;go_wp2_with fail
  have Q:=(((((bm.ba 0 ()).ba 1 ()).ba 2 ()).alloc (.cells #[gH,gB] 94)).alloc (.cells #[gH,gB,()] 34)).cell;exact bI (v:=bj #[aF #[(),(),()],ah 6]) (by simp[results,results173,go_sem,Q]) rfl ⟨rfl,aV.sc (by omega)|>.sc (by omega)|>.sc (by omega)|>.aZ.aZ⟩
 have QR:=Ue.out;rw[aw Wc]at QR;have abZ:o=39->0<n:=λh=>by omega
 obtain⟨pz,Rv⟩:∃pz,pz=o:=⟨_,rfl⟩;rw[<-Rv]at QR;have eG:=I (show pz=36\/pz=37\/pz=38\/pz=39 by rw[Rv];exact aA);have zY:=I QR;have H39:=I abZ;have KJ:=I Rv;clear QR Wc abZ Ue Cp Rv;have zM:=I bo;have e3:=I bh;have eA:=I bm;rcases aA with rfl|rfl|rfl|rfl
 all_goals
  (try (have hnz:((n:J)==0)=false:=by have:=H39.out rfl;simp;omega))
  clear H39;go_upto_region 7 with fail
  have TG:=(aB.new W 94 #[gH,gB]).alloc (.cells #[gH,gB,()] 34);have TH:=aB.new (W.alloc (.cells #[gH,gB] 94)) 34 #[gH,gB,()];rw[qf]at TH;have du:Kept W ((W.alloc (.cells #[gH,gB] 94)).alloc (.cells #[gH,gB,()] 34)):=(aG _).aZ.aZ;go_wp2_with fail
  clear dX dM dQ zq cR bq b5 bo bh bm;go_loopw [39] (λz wr=>∃(i:aa)(dD e4 an:J),i<=n/\z=ah i/\Kept W wr/\aB wr W 94 #[gH,gB]/\aB wr (W.heap.size+1) 34 #[dD,e4,an]/\Pu an/\mZ pz k ⟨gH,gB⟩ i (ms.drop i) ⟨dD,e4,an⟩=(⟨cS,eo,di⟩,rc)) (λz _=>(n-intOf z).toNat)
  case atStart=>
   have aT:=zY.out;have Ru:=KJ.out;subst Ru
   first
    |exact⟨0,gH,gB,0,d' _,rfl,du,TG,TH,⟨by omega,by omega⟩,by simpa using aT.symm⟩
    |exact⟨0,gH,gB,1,d' _,rfl,(aG _).aZ.aZ,(aB.new W 94 #[gH,gB]).alloc _,(by have:=aB.new (W.alloc (.cells #[gH,gB] 94)) 34 #[gH,gB,ah 1];rwa [qf]at this),⟨by omega,by omega⟩,by simpa using aT.symm⟩
  case round=>
   obtain⟨i,dD,e4,an,dG,rfl,ax,a7,bc,lH,a6⟩:=hrel;clear du TG TH;have s0:=aV.trans ax;have jF:=zM.kept ax;have gN:=e3.kept ax;have df:=eA.kept ax;obtain⟨gK,cR⟩:=jF.p;obtain⟨bd,bq⟩:=gN.p;obtain⟨a8,b5,q2f⟩:=df.q;obtain⟨JQ,auC⟩:=a7.p;obtain⟨tl,Yf,qbf⟩:=bc.q;have hWs:w.heap.size+1+1<W.heap.size:=eA.lt;by_cases aN:i<n
   .obtain⟨j8,kJ,rfl,qF,xD⟩:=bN (by omega);have al:ms[i]?=some (ms[i]'(by have:=b3.out;omega)):=bn _;obtain⟨au0,lh,z0,hVm⟩:=(xD i _ al).2;generalize ms[i]'(by have:=b3.out;omega)=m at*;have avg:=s0.aI qF z0;have arL:=bG qF s0.size;have db:(i:J)<n:=by omega
    obtain⟨Am',cm',nM,WE⟩:=hVm.at_;obtain⟨rfl,-,rfl⟩:=Tr nM;clear xD z0 nM bN hVm;have fa:=I a6;have eQ:=I al;clear a6 al;by_cases az:k<m.length
    .obtain⟨aty,auJ,rfl,I9,AG⟩:=WE (by omega);have xv:m[k]?=some m[k]:=bn az;obtain⟨v0',v1',v2'⟩:=AG k _ xv;generalize m[k]=V at*;obtain⟨cg,xV,dR⟩:=V;have UY:=s0.aI I9 v0';have hs:=s0.aI I9 v1';have mn:=s0.aI I9 v2';dsimp only at UY hs mn;have arO:=bG I9 s0.size;have wg:(k:J)<m.length:=by omega
     have OZ:=I xv;clear AG v0' v1' v2' WE xv;have c8:=I (λw=>aca cg xV dR gH gB w);by_cases my:cg=0
     .subst my;have a1:=fa.out;rw[Sv eQ,OZ,b9,aP (.inr rfl)]at a1;obtain⟨rfl,rfl,rfl,rfl⟩:=j2 a1.symm;clear a1;go_wp2_with fail
      have BE:=(((df.ba 0 ()).ba 1 ()).ba 2 ()).cell;exact bI (v:=bj #[aF #[(),(),()],ah 6]) (by simp[results,results173,go_sem,BE]) rfl ⟨rfl,s0.sc (by omega)|>.sc (by omega)|>.sc (by omega)⟩
     have Gq:(cg==0)=false:=by simpa using my
     cases cr:xq ⟨cg,xV,dR⟩ gH gB
     .have a1:=fa.out;rw[Sv eQ,OZ,b9,aw (by simp only[not_or];exact⟨by omega,my⟩),aP cr]at a1;obtain⟨rfl,rfl,rfl,rfl⟩:=j2 a1.symm;rw[cr]at c8;clear a1 cr;go_wp2_with (go_at_call 168;refine (c8 _).mono ?_;rintro y w1⟨rfl,au⟩;obtain⟨dE,jk⟩:=Kept.cells au;have cG:=au.size;(try simp at cG))
      have fh:=(df.alloc (.cells #[cg,xV,dR] 34)).kept au;have BE:=(((fh.ba 0 ()).ba 1 ()).ba 2 ()).cell;exact bI (v:=bj #[aF #[(),(),()],ah 8]) (by simp[results,results173,go_sem,BE]) rfl ⟨rfl,s0.aZ.trans au|>.sc (by omega)|>.sc (by omega)|>.sc (by omega)⟩
     have nK:iv ⟨cg,xV,dR⟩=true:=by unfold xq at cr;simp only[nB]at cr;exact cr.1
     obtain⟨g1,g2,-⟩:=EB nK;simp only at g1 g2;obtain⟨e9,eC⟩:=lH;have dH:=anx pz eG k ⟨gH,gB⟩ i ms m ⟨cg,xV,dR⟩ ⟨dD,e4,an⟩ _ eQ OZ my cr fa;rw[cr]at c8;have wS:=KJ.out;clear cr fa eQ OZ my nK;have hT:=I (λw1(h:Kept (wr.alloc (.cells #[cg,xV,dR] 34)) w1)=>(a7.alloc (.cells #[cg,xV,dR] 34)).kept h);have oD:=I (λw1(h:Kept (wr.alloc (.cells #[cg,xV,dR] 34)) w1)=>(bc.alloc (.cells #[cg,xV,dR] 34)).kept h);rcases dH with⟨ab,hp,dH⟩|⟨ab,hp,a1⟩|⟨ab,dH⟩|⟨ab,dH⟩|⟨ab,hp,dH⟩|⟨ab,hp,we,dH⟩
     .first
      |(exfalso;omega)
      |(have wY:=I (λw=>EC dD e4 (an+dR) w)
        rw[hp]at wY;have oF:=I (EB hp);have fl:=I dH;clear hp dH ab wS;go_wp2_with (first|(go_at_call 168;refine (c8 _).mono ?_;rintro y w1⟨rfl,au⟩;obtain⟨dE,jk⟩:=Kept.cells au;have cG:=au.size;(try simp at cG))|(go_at_call 159;refine (wY _).mono ?_;rintro y w2⟨rfl,bt⟩;obtain⟨jj,Cg⟩:=Kept.cells bt;have eM:=bt.size;(try simp at eM)))
        have mA:=oF.out
        (try dsimp only at mA)
        go_roundw
        case rel=>exact⟨i+1,dD,e4,an+dR,aN,by go_num,ax.aZ.trans au|>.sc (by omega)|>.trans bt,((hT _ au).far (p:=⟨W.heap.size+1,2,none⟩) (by simp only;omega) _).kept bt,((oD _ au).ba 2 _).kept bt,⟨by omega,by omega⟩,fl⟩
        case measure=>simp[intOf];omega)
     .first
      |(exfalso;omega)
      |(have wY:=I (λw=>EC dD e4 (an+dR) w)
        rw[hp]at wY;obtain⟨rfl,rfl,rfl,rfl⟩:=j2 a1;have fh:=I (λw1(h:Kept (wr.alloc (.cells #[cg,xV,dR] 34)) w1)=>(df.alloc (.cells #[cg,xV,dR] 34)).kept h);clear hp a1 ab wS;go_wp2_with (first|(go_at_call 168;refine (c8 _).mono ?_;rintro y w1⟨rfl,au⟩;obtain⟨dE,jk⟩:=Kept.cells au;have cG:=au.size;(try simp at cG))|(go_at_call 159;refine (wY _).mono ?_;rintro y w2⟨rfl,bt⟩;have Z:=((fh _ au).far (p:=⟨W.heap.size+1,2,none⟩) (by simp only;omega) (ah (an+dR))).kept bt;have z2c:=Z.cell;have z2f:=Z.frozen;have z2l:=Z.lt))
        have BE:=((((((fh _ au).far (p:=⟨W.heap.size+1,2,none⟩) (by simp only;omega) (ah (an+dR))).kept bt).ba 0 ()).ba 1 ()).ba 2 ()).cell;exact bI (v:=bj #[aF #[(),(),()],ah 3]) (by simp[results,results173,go_sem,BE]) rfl ⟨rfl,s0.aZ.trans au|>.sc (by omega)|>.trans bt|>.sc (by omega)|>.sc (by omega)|>.sc (by omega)⟩)
     .first
      |(exfalso;omega)
      |(have fl:=I dH
        clear dH ab wS;go_wp2_with (go_at_call 168;refine (c8 _).mono ?_;rintro y w1⟨rfl,au⟩;obtain⟨dE,jk⟩:=Kept.cells au;have cG:=au.size;(try simp at cG))
        go_roundw
        case rel=>exact⟨i+1,dD,e4,min an dR,aN,by go_num,ax.aZ.trans au|>.sc (by omega),(hT _ au).far (p:=⟨W.heap.size+1,2,none⟩) (by simp only;omega) _,(oD _ au).ba 2 _,⟨by omega,by omega⟩,fl⟩
        case measure=>simp[intOf];omega)
     .first
      |(exfalso;omega)
      |(have fl:=I dH
        clear dH ab wS;go_wp2_with (go_at_call 168;refine (c8 _).mono ?_;rintro y w1⟨rfl,au⟩;obtain⟨dE,jk⟩:=Kept.cells au;have cG:=au.size;(try simp at cG))
        go_roundw
        case rel=>exact⟨i+1,dD,e4,max an dR,aN,by go_num,ax.aZ.trans au|>.sc (by omega),(hT _ au).far (p:=⟨W.heap.size+1,2,none⟩) (by simp only;omega) _,(oD _ au).ba 2 _,⟨by omega,by omega⟩,fl⟩
        case measure=>simp[intOf];omega)
     .first
      |(exfalso;omega)
      |(have fl:=I dH
        have Rw:i=0\/an<dR:=hp;rcases (show ((i:J)==0)=true\/(((i:J)==0)=false/\an<dR) by simp;omega)with aY|⟨aY,a'⟩
        all_goals
         clear dH ab wS hp Rw;go_wp2_with (go_at_call 168;refine (c8 _).mono ?_;rintro y w1⟨rfl,au⟩;obtain⟨dE,jk⟩:=Kept.cells au;have cG:=au.size;(try simp at cG))
         go_roundw
         case rel=>exact⟨i+1,cg,xV,dR,aN,by go_num,ax.aZ.trans au|>.sc (by omega)|>.sc (by omega)|>.sc (by omega),(((hT _ au).far (p:=⟨W.heap.size+1,0,none⟩) (by simp only;omega) _).far (p:=⟨W.heap.size+1,1,none⟩) (by simp only;omega) _).far (p:=⟨W.heap.size+1,2,none⟩) (by simp only;omega) _,(((oD _ au).ba 0 _).ba 1 _).ba 2 _,⟨by omega,by omega⟩,fl⟩
         case measure=>simp[intOf];omega)
     .first
      |(exfalso;omega)
      |(have fl:=I dH
        have aY:((i:J)==0)=false:=by simp;omega
        have Rw:¬an<dR:=we;clear dH ab wS hp we;go_wp2_with (go_at_call 168;refine (c8 _).mono ?_;rintro y w1⟨rfl,au⟩;obtain⟨dE,jk⟩:=Kept.cells au;have cG:=au.size;(try simp at cG))
        go_roundw
        case rel=>exact⟨i+1,dD,e4,an,aN,by go_num,ax.aZ.trans au,hT _ au,oD _ au,⟨by omega,by omega⟩,fl⟩
        case measure=>simp[intOf];omega)
    .have a1:=fa.out;rw[Sv eQ,aP (.inl (by omega))]at a1;obtain⟨rfl,rfl,rfl,rfl⟩:=j2 a1.symm;have wg:¬((k:J)<m.length):=by omega
     clear a1 WE;go_wp2_with fail
     have BE:=(((df.ba 0 ()).ba 1 ()).ba 2 ()).cell;exact bI (v:=bj #[aF #[(),(),()],ah 6]) (by simp[results,results173,go_sem,BE]) rfl ⟨rfl,s0.sc (by omega)|>.sc (by omega)|>.sc (by omega)⟩
   .have db:¬((i:J)<n):=by omega
    have a1:((⟨dD,e4,an⟩:bC),(0:J))=(⟨cS,eo,di⟩,rc):=by rw[<-a6,zF.2 (by have:=b3.out;omega)];rfl
    obtain⟨rfl,rfl,rfl,rfl⟩:=j2 a1;clear a1 a6;go_wp2_with fail
    have BE:=(((df.ba 0 dD).ba 1 e4).ba 2 an).cell;exact bI (v:=bj #[aF #[dD,e4,an],()]) (by simp[results,results173,go_sem,BE]) rfl ⟨rfl,s0.sc (by omega)|>.sc (by omega)|>.sc (by omega)⟩
end Go.Proofs.YtilhklpfkgbikaaGreatDoor
