import Derived.Test.YtilhklpfkgbikaaGreatDoorW
set_option linter.all false
namespace Go.Proofs.YtilhklpfkgbikaaGreatDoor
open Go.RowKit Go.Proofs.Tryz
set_option maxRecDepth 100000
set_option maxHeartbeats 8000000
def Ak{n:aa}{rs:List br}{l:aW}(h:l∈gV n rs):l.Nodup/\h8 n l:=by
 obtain⟨d,aE⟩:=mc h;have rq:d<n:=by have:=(b2 aE).1;rwa [BU]at this
 refine⟨?_,λe he=> ?_⟩
 .unfold gV at h;obtain⟨z,_,rfl⟩:=o3.1 h;exact (aeO z).2.imp (λh e=>by omega)
 .have:e∈(gV n rs)[d]?.getD []:=by rw[aE];exact he
  obtain⟨r,_,_,ad⟩:=(ado rq).1 this;exact (Sa.1 ad).1
def Aj(n:aa)(rs:List br)(d:J):h8 n ((gV n rs)[d.toNat]?.getD []):=by
 cases al:(gV n rs)[d.toNat]? with
 |none=>exact λe he=>by cases he
 |some l=>exact (Ak (fe al)).2
def nD.b'{w:ag}{B G:aa}{us:dN}{ls:List aW}(h:nD w B G us ls)(av:ls.length<=1000):TA w (ae (some (G,0)) ls ls) ls:=by
 refine⟨_,_,rfl,bB _,by omega,λ_=>⟨G,0,rfl,h.eH.lt,λj x ay=> ?_⟩⟩;have W4:j<us.length:=by rw[h.len];exact (b2 ay).1
 have hu:us[j]?=some us[j]:=bn W4;refine⟨us[j],?_,(h.own j _ _ hu ay).reads⟩;unfold g';rw[h.eH.cell,ql,jD];simp
def ma(n:aa)(rs:List br)(d:J):aW:=if 0<=d/\d<n then vm (gV n rs) n d else []
def CK{n:aa}{rs:List br}{d e:J}(aE:0<=d/\d<n):e∈ma n rs d↔pc (gV n rs) d e:=by
 unfold ma;rw[aP aE,amH (Aj n rs)]
def Zs(v:ak)(x:cq)(d:J)(w:ag)(bH:nF w v x)(aJ:qw x.rs)(aH:x.ds.length<=1000):bg 31 #[v,d] w (tj w (ma x.ds x.rs d) w):=by
 have cI:=I (λw1(ai:Kept w w1)=>U4 v x w1 (bH.kept ai) aJ aH);obtain⟨b7,dy,cD,rfl,b6,cY,l5⟩:=bH;obtain⟨jf,jo,rfl,-⟩:=b6;obtain⟨hT,ij,rfl,-⟩:=cY;obtain⟨eR,rc,rfl,-⟩:=l5;have HP:=I (λ(w1 w2:ag)(G:aa)(us:dN)(aE:0<=d/\d<x.ds.length)(AE:nD w1 w G us (gV x.ds x.rs))(ai:Kept w1 w2)=>(by
  have av:=BU x.ds x.rs;have ab:=(AE.kept ai).b' (by omega);rw[av]at ab;exact aea _ (gV x.ds x.rs) x.ds d w2 ab av (Aj _ _) aE aH (λl av=>by
   obtain⟨g1,g2⟩:=Ak av;have:=AO _ _ g1 g2;omega):bg 55 #[ae (some (G,0)) x.ds x.ds,d] w2 (tj w2 (vm (gV x.ds x.rs) x.ds d) w2)))
 obtain⟨T,bT⟩:∃T,T=ma x.ds x.rs d:=⟨_,rfl⟩;rw[<-bT];have c8:=I bT;have cE:=I (show∀w1:ag,T=[]->Kept w w1->tj w T w (bL bf) w1 from λw1 h ai=>⟨_,rfl,by rw[h];exact qh _ _ _ _,ai⟩);have ry:(x.ds:J)<=1000:=by omega
 generalize x.ds.length=n at*;generalize x.ins.length=AN at*;generalize x.rs.length=auH at*;generalize x.rs=rs at*;clear bT aJ;by_cases ar:d<0
 .have cW:=I (show T=[] by rw[c8];unfold ma;rw[aw (by omega)]);go_enter func31,ntmps31
  go_wp2_with fail
  go_ret;exact cE _ cW ((aG _).aZ)
 by_cases ab:(n:J)<=d
 .have cW:=I (show T=[] by rw[c8];unfold ma;rw[aw (by omega)]);have ad:0<=d:=by omega
  go_enter func31,ntmps31
  go_wp2_with fail
  go_ret;exact cE _ cW ((aG _).aZ)
 have ad:0<=d:=by omega
 have ao:d<n:=by omega
 have cW:=I (show vm (gV n rs) n d=T by rw[c8];unfold ma;rw[aP ⟨ad,ao⟩]);go_enter func31,ntmps31
 go_upto_region 3 with fail
 generalize aL:w.alloc _=W at*;obtain⟨aV,bo⟩:=Kept.aQ aL;clear aL;obtain⟨dX,cR⟩:=bo.p;have ke:=I (cI W aV);go_wp2_with (first|(go_at_call 56;refine ke.mono ?_;rintro e w1⟨G,us,rfl,g1,g2,g3⟩;have eQ:=I (bb g1 (bb g2 g3));clear g1 g2 g3)|(go_at_call 55;refine (HP _ _ _ _ ⟨ad,ao⟩ (nD.low eQ.1 aV.size) (aG _)).mono ?_;rintro e w2⟨u,rfl,bd,a8⟩;have b1:=I (bb bd a8);clear bd a8))
 go_ret;exact⟨_,rfl,by rw[<-cW];exact dj.low b1.1 (fN aV.size eQ.2.2.size),aV.trans (eQ.2.2.trans b1.2)⟩
def oV(l:aW)(s:List Bool):List Bool:=l.foldl (λs e=>s.set e.toNat true) s
def R_:∀(l:aW)(s:List Bool),(oV l s).length=s.length:=by
 intro l;induction l with
 |nil=>intro s;rfl
 |cons e l bO=>intro s;exact (bO _).trans (gJ ..)
def aeJ:∀(l:aW)(s:List Bool),h8 s l->∀f:J,0<=f->(e1 (oV l s) f=true↔e1 s f=true\/f∈l):=by
 intro l;induction l with
 |nil=>intro s _ f _;simp[oV]
 |cons e l bO=>
  intro s h f bV;have he:=h e (o2 ..);have:=bO (s.set e.toNat true) (by rw[gJ];exact λx aj=>h x (qY _ aj)) f bV;rw[wD he bV]at this;refine this.trans ?_;rw[fM,or_assoc]
def amy{l:aW}{j:aa}{e:J}(h:l[j]?=some e)(s:List Bool):oV (l.drop j) s=oV (l.drop (j+1)) (s.set e.toNat true):=by
 have ay:=(b2 h).1;rw[jA ay];obtain⟨_,rfl⟩:=b2 h;rfl
def gM(n:aa)(rs:List br)(d:J):List Bool:=oV (ma n rs d) ((List.replicate n false).set d.toNat true)
def ZG(n:aa)(rs:List br)(d:J):(gM n rs d).length=n:=by unfold gM;rw[R_,gJ,iQ]
def Oi(n:aa)(rs:List br)(d:J):h8 n (ma n rs d):=by
 intro e he;by_cases aE:0<=d/\d<n
 .exact ((CK aE).1 he).CB (Aj n rs)
 .unfold ma at he;rw[aw aE]at he;cases he
def aeK{n:aa}{rs:List br}{d:J}(aE:0<=d/\d<n){f:J}(bV:0<=f):e1 (gM n rs d) f=true↔f=d\/f∈ma n rs d:=by
 unfold gM;rw[aeJ _ _ (by rw[gJ,iQ];exact Oi n rs d) f bV,wD (by rw[iQ];exact aE) bV,G7];simp
def p_(n:aa)(S:List Bool)(r:br):aW:=if 0<=r.bx/\r.bx<n/\e1 S r.bx=true then e_ (ic r.g)++e_ (ic r.v)else []
def j9(n:aa)(rs:List br)(d:J):aW:=if 0<=d/\d<n then e_ (rs.flatMap (p_ n (gM n rs d)))else []
def NM{n:aa}{rs:List br}{d:J}(aE:0<=d/\d<n){e:J}:e∈j9 n rs d↔∃r∈rs,(0<=r.bx/\r.bx<n)/\(r.bx=d\/r.bx∈ma n rs d)/\(e∈ic r.g\/e∈ic r.v):=by
 unfold j9;rw[aP aE,Et,List.mem_flatMap];refine exists_congr λr=>and_congr Iff.rfl ?_;unfold p_;by_cases ar:0<=r.bx/\r.bx<n
 .rw[<-aeK aE ar.1];by_cases ab:e1 (gM n rs d) r.bx=true
  .rw[aP ⟨ar.1,ar.2,ab⟩,k5,Et,Et];simp[ar,ab]
  .rw[aw (λh=>ab h.2.2)];simp[ab]
 .rw[aw (λh=>ar ⟨h.1,h.2.1⟩)];simp[ar]
def adJ{n:aa}{S:List Bool}{r:br}(ab:r.g.length<=48)(ad:r.v.length<=48):(p_ n S r).length<=96:=by
 unfold p_;split
 .rw[fk];have eS:=AY (ic r.g);have a2:=AY (ic r.v);have c9:(ic r.g).length<=r.g.length:=by unfold ic;rw[er];exact nX _ _
  have bW:(ic r.v).length<=r.v.length:=by unfold ic;rw[er];exact nX _ _
  omega
 .exact d' _
def abO{rs:List br}{n:aa}{S:List Bool}(h:∀r∈rs,r.g.length<=48/\r.v.length<=48):∀i,i<=rs.length->((rs.take i).flatMap (p_ n S)).length<=96*i:=by
 intro i;induction i with
 |zero=>intro _;simp
 |succ i bO=>
  intro aD;have al:rs[i]?=some (rs[i]'aD):=bn _;rw[qZ,al,Ka,fk];have ab:=bO (by omega);have ad:=h _ (fe al);have ao:=adJ (n:=n) (S:=S) ad.1 ad.2;simp only[zA,zC,List.flatMap_nil,hj];omega
def zp{w:ag}{B g:aa}{v:ak}{l:aW}(h:dj w B v l)(e:v.ownBlock=some g):B<=g:=by
 rcases h.2 with⟨ad,_⟩|⟨ju,cap,cur,aK,af,al,ao⟩
 .rw[ad]at e;cases e
 .rw[aK]at e;obtain rfl:ju=g:=cJ e;exact af
def Two.kept{w ch wr:ag}{G:aa}(h:Two ch wr none G)(ai:Kept w ch)(aL:w.heap.size<=G):Kept w wr:=
 ⟨h.os.trans ai.os,h.tape.trans ai.tape,h.output.trans ai.output,fN ai.size h.size,λb af=>(h.block b (bG af ai.size) (by omega) (by simp)).trans (ai.block b af)⟩
def Two.cell{w wr:ag}{G:aa}(h:Two w wr none G){b o:aa}(af:b<w)(bU:b≠G):aU wr (b,o)=aU w (b,o):=by
 unfold World.cell?;rw[h.block b af bU (by simp)]
def afu{ops:Array Oper}{rest:List Oper}{o:Oper}{a:Act}{Q:Exit->Act->ag->Prop}{w:ag}(MV:o.guard=none)(s x:Operand)(aA:o.op= .call {callee:= .builtin .append,args:=#[s,x],argTypes:=#[46,46]}){base:aa}{v:ak}{xs:aW}(aO:a.eval s=v)(aL:dj w base v xs){vy:ak}{cA:aW}(aj:a.eval x=vy)(yX:gw w vy cA)(av:xs.length+cA.length<=2000000)(af:base<=w)(h:∀v' w',dj w' base v' (xs++cA)->w.grownBy w' v.ownBlock->(v'.ownBlock=v.ownBlock\/v'.ownBlock=some w.heap.size)->wpList prog ops Q rest (a.put o.dst v') w'):wpList prog ops Q (o::rest) a w:=
 wpList_plain MV λ_ ax=>afw s x aA aO aL aj yX av af λv' w' ab ad ao=>ax _ _ (h v' w' ab ad ao)
def dj.row{w:ag}{B:aa}{v:ak}{l:aW}(h:dj w B v l):∃A cap,v=ae A l cap/\(0<l.length->∃g,A=some ⟨g,0,none⟩/\B<=g/\g<w.heap.size/\∀(j:aa)x,l[j]?=some x->aU w ⟨g,j,none⟩=some (ah x)):=by
 obtain⟨A,cap,rfl⟩:=iN h;refine⟨A,cap,rfl,λhp=> ?_⟩;rcases h.2 with⟨_,ar⟩|⟨g,rj,cur,ar,ao,aR,bw,eL,hX,eI⟩
 .omega
 .simp only[i_]at ar;obtain⟨rfl,-,rfl⟩:=ar;refine⟨g,rfl,ao,(nW.1 aR).1,λj x ay=> ?_⟩;rw[cell_of_row w g j cur _ _ aR];have qL:=(b2 ay).1;have:=congrArg (λq=>q[j]?) eI;simp only[jD]at this;rw[tv qL,hS,ay,Ba]at this;exact this
def amD(v:ak)(x:cq)(d:J)(w:ag)(bH:nF w v x)(aJ:qw x.rs)(aH:x.ds.length<=1000):bg 32 #[v,d] w (tj w (j9 x.ds x.rs d) w):=by
 have cI:=I (λw1(ai:Kept w w1)=>U4 v x w1 (bH.kept ai) aJ aH);obtain⟨b7,dy,cD,rfl,b6,cY,l5⟩:=bH;obtain⟨jf,jo,rfl,-⟩:=b6;obtain⟨hT,ij,rfl,-⟩:=cY;obtain⟨eR,rc,rfl,-,GB,lI⟩:=l5;obtain⟨pt,iL⟩:=aJ;have HP:=I (λ(w1 w2:ag)(G:aa)(us:dN)(aE:0<=d/\d<x.ds.length)(AE:nD w1 w G us (gV x.ds x.rs))(ai:Kept w1 w2)=>(by
  have av:=BU x.ds x.rs;have ab:=(AE.kept ai).b' (by omega);rw[av]at ab;exact aea _ (gV x.ds x.rs) x.ds d w2 ab av (Aj _ _) aE aH (λl av=>by
   obtain⟨g1,g2⟩:=Ak av;have:=AO _ _ g1 g2;omega):bg 55 #[ae (some (G,0)) x.ds x.ds,d] w2 (tj w2 (vm (gV x.ds x.rs) x.ds d) w2)))
 obtain⟨T,bT⟩:∃T,T=j9 x.ds x.rs d:=⟨_,rfl⟩;rw[<-bT];have c8:=I bT;have cE:=I (show∀w1:ag,T=[]->Kept w w1->tj w T w (bL bf) w1 from λw1 h ai=>⟨_,rfl,by rw[h];exact qh _ _ _ _,ai⟩);have ry:(x.ds:J)<=1000:=by omega
 have pO:=I lI;have jH:=I iL;generalize x.ds.length=n at*;generalize x.ins.length=AN at*;generalize x.rs=rs at*;obtain⟨i0,aD,fY,cG,eM⟩:=hy Tryz.Nu;clear bT lI iL;by_cases ar:d<0
 .have cW:=I (show T=[] by rw[c8];unfold j9;rw[aw (by omega)]);go_enter func32,ntmps32
  go_wp2_with fail
  go_ret;exact cE _ cW ((aG _).aZ)
 by_cases ab:(n:J)<=d
 .have cW:=I (show T=[] by rw[c8];unfold j9;rw[aw (by omega)]);have ad:0<=d:=by omega
  go_enter func32,ntmps32
  go_wp2_with fail
  go_ret;exact cE _ cW ((aG _).aZ)
 obtain⟨ek,rfl⟩:∃ek:aa,d=ek:=⟨d.toNat,by omega⟩;have ad:(0:J)<=ek:=by omega
 have ao:(ek:J)<n:=by omega
 have rq:ek<n:=by omega
 have cW:=I (show e_ (rs.flatMap (p_ n (gM n rs ek)))=T by rw[c8];unfold j9;rw[aP ⟨ad,ao⟩]);have n7:=I (show oV (vm (gV n rs) n ek) ((List.replicate n false).set ek true)=gM n rs ek by unfold gM ma;rw[aP ⟨ad,ao⟩,c7]);have q7:=I (show h8 n (vm (gV n rs) n ek) by have:=Oi n rs ek;unfold ma at this;rwa [aP ⟨ad,ao⟩]at this);have nC:=I (ZG n rs ek);have vR:=I (show (vm (gV n rs) n ek).length<=n by unfold vm;rw[er];exact fN (nX _ _) (by rw[vG];exact bB _));generalize gM n rs ek=S at*;generalize vm (gV n rs) n ek=o0 at*;clear c8 cE ar ab;go_enter func32,ntmps32
 go_upto_region 3 with fail
 generalize aL:w.alloc _=W at*;obtain⟨aV,bo⟩:=Kept.aQ aL;clear aL;obtain⟨dX,cR⟩:=bo.p;have hGW:w<W.heap.size:=cR;go_upto_region 4 with (at_make;refine rR _ rfl _ _ 108 rfl W 4 i0 (bR false) 1 underlying108 aD fY cG _ _ _ _ n rfl rfl rfl rfl (by rw[eM];omega) (by unfold maxLen;omega) (bB _) ?_;intro w1 cN cu;have cB:=I (GU cN cu);clear cN cu)
 have bh:=cB.1;have aY:=bh.cell ek;rw[oa (b:=false) (by rw[uj,aP rq])]at aY;have f1:=bh.frozen ek;have bq:=bh.lt;have h9:=cB.2;clear dX cR;go_upto_region 5 with fail
 have bm:=bh.ba ek (bR true);rw[yE]at bm;have c3:Kept W (w1.setCell ⟨W.heap.size,ek,none⟩ (bR true)):=h9.setCell (p:=⟨W.heap.size,ek,none⟩) (bB _) _;have TB:=bo.kept c3;clear aY f1 bq bh cB;generalize w1.setCell ⟨W.heap.size,ek,none⟩ (bR true)=ha at*;obtain⟨dQ,b5⟩:=TB.p;have ke:=I (cI ha (aV.trans c3));go_upto_region 6 with (first|(go_at_call 56;refine ke.mono ?_;rintro e ch⟨G,us,rfl,g1,g2,g3⟩;have eQ:=I (bb g1 (bb g2 g3));clear g1 g2 g3)|(go_at_call 55;refine (HP _ _ _ _ ⟨ad,ao⟩ (nD.low eQ.1 (fN aV.size c3.size)) (aG _)).mono ?_;rintro e eK⟨u,rfl,bd,a8⟩;obtain⟨gI,eg,rfl,s9⟩:=dj.row bd;have b1:=I (bb s9 a8);clear bd a8 s9))
 have eB:Kept ha eK:=eQ.2.2.trans b1.2;have fH:=bm.kept eB;have uF:=I b1.1;have hG3:W<ch.heap.size:=bG bm.lt eQ.2.2.size;have TC:=TB.kept eB;have tJ:=(aV.trans c3).trans eB;have GF:o0.length<=8796093022208:=by
  have:=vR.out;omega
 clear eQ b1 cI ke HP dQ b5 bm TB;go_loopw [38] (λy wr=>∃(j:aa)(s:List Bool),y=ah j/\j<=o0.length/\aB wr W 4 (iJ s)/\s.length=n/\Two eK wr none W/\oV (o0.drop j) s=S) (λy _=>o0.length-(intOf y).toNat)
 case atStart=>exact⟨0,_,rfl,d' _,fH,by rw[gJ,iQ],Two.refl _ _ _,n7⟩
 case round=>
  obtain⟨j,s,rfl,ay,bc,aO,nH,a6⟩:=hrel;by_cases aN:j<o0.length
  .obtain⟨g,rfl,pj,kS,l7⟩:=uF.out (by omega);have al:o0[j]?=some o0[j]:=bn aN;have hD:=q7.out _ (fe al);rw[amy al]at a6;have t0:=(nH.cell (o:=j) kS (by omega)).trans (l7 j _ al);generalize o0[j]=dw at*;obtain⟨bs,rfl⟩:∃bs:aa,dw=bs:=⟨dw.toNat,by omega⟩;obtain⟨hD,aQ⟩:=hD;have qI:bs<s.length:=by omega
   have aY:=bc.cell bs;rw[oa (bn qI)]at aY;have f1:=bc.frozen bs;have bq:=bc.lt;have hlg:=bG kS nH.size;have hH:(j:J)<o0.length:=by omega
   rw[c7]at a6;have im:=bc.ba bs (bR true);rw[yE]at im;have bS:=I (bb im (bb (nH.ba bs (bR true)) (bb a6 aO)));clear bc im nH a6 l7 al aO;go_wp2_with fail
   go_roundw
   case rel=>exact⟨j+1,_,by go_num,aN,bS.1,by rw[gJ];exact bS.2.2.2,bS.2.1,bS.2.2.1⟩
   case measure=>simp[intOf];omega
  .obtain rfl:j=o0.length:=by omega
   rw[E4]at a6;obtain rfl:s=S:=a6;have db:¬((o0:J)<o0.length):=by omega
   have mJ:Kept w wr:=nH.kept tJ (ui hGW);have B05:aB wr w 89 #[x.aM,x.ms,ae jf AN jo,ae hT n ij,ae eR rs rc]:=(nH.block _ TC.lt (by omega) (by simp)).trans TC;have dv:=I bc;obtain⟨zr,gA⟩:=B05.p;clear bc nH uF fH TC tJ eB bo;generalize wr=Il at*;go_upto_region 12 with fail
   clear zr;go_loopw [8,49] (λa y wr=>∃i:aa,y=ah i/\i<=rs.length/\Kept Il wr/\dj wr Il a ((rs.take i).flatMap (p_ n s))) (λ_ y _=>rs.length-(intOf y).toNat)
   case atStart=>exact⟨0,rfl,d' _,aG _,qh _ _ _ _⟩
   case round=>
    obtain⟨i,rfl,dG,ax,dZ⟩:=hrel;by_cases aN:i<rs.length
    .obtain⟨ej,ro,rfl,gq,kH⟩:=pO.out (by omega);have al:rs[i]?=some (rs[i]'aN):=bn _;have mR:=vH aN;obtain⟨⟨cK,-⟩,⟨aY,-⟩,⟨a',-⟩,⟨bu,-⟩,⟨b4,-⟩,⟨b_,-⟩,⟨sY,dn,oo⟩,⟨tr,mr,AF⟩,⟨hV,-⟩⟩:=kH i _ al;have Nj:(rs.take (i+1)).flatMap (p_ n s)=(rs.take i).flatMap (p_ n s)++p_ n s (rs[i]'aN):=by
      rw[qZ,al,Ka];simp
     have aj2:=abO (rs:=rs) (n:=n) (S:=s) jH i dG;obtain⟨D',GG⟩:=jH.out _ mR;generalize rs[i]'aN=r at*;obtain⟨gC,gc,rfl,-⟩:=oo.1.at_;obtain⟨gx,eT,rfl,-⟩:=AF.1.at_;unfold g' at cK aY a' bu b4 b_ dn mr hV;have aS:=mJ.trans ax;have jF:=aS.aI gq cK;have gN:=aS.aI gq aY;have df:=aS.aI gq a';have ev:=aS.aI gq bu;have tx:=aS.aI gq b4;have Kp:=aS.aI gq b_;have Dh:=aS.aI gq dn;have yb:=aS.aI gq mr;have rU:=aS.aI gq hV;have acE:=bG gq aS.size;have Rk:(i:J)<rs.length:=by omega
     have eG:=I dZ;have cp:=I ax;have vQ:=I Nj;have Up:=I (λ(w1:ag)(ai:Kept w w1)=>bb (SI _ r.g w1 (oo.kept ai)) (SI _ r.v w1 (AF.kept ai)));have gi:=I aS;clear cK aY a' bu b4 b_ dn mr hV oo AF kH al ax dZ Nj aS;go_upto_region 14 with fail
     generalize aL:wr.alloc _=Ln at*;obtain⟨c3,bm⟩:=Kept.aQ aL;clear aL;have atj:=(B05.kept cp).kept c3;have de:=(dv.kept cp).kept c3;have NY:=bm.cell;have HBX:=I bm;have fq:=bm.lt;obtain⟨avI,sl6⟩:=atj.p;clear jF gN df ev tx Kp Dh yb rU;by_cases kF:r.bx<0
     .have cE:=I (show p_ n s r=[] by unfold p_;rw[aw (by omega)]);go_wp2_with fail
      go_roundw
      case rel=>exact⟨i+1,by go_num,aN,cp.trans c3,by rw[vQ,cE,hj];exact eG.vd c3⟩
      case measure=>simp[intOf];omega
     by_cases hf:(n:J)<=r.bx
     .have cE:=I (show p_ n s r=[] by unfold p_;rw[aw (by omega)]);have mx:0<=r.bx:=by omega
      go_wp2_with fail
      go_roundw
      case rel=>exact⟨i+1,by go_num,aN,cp.trans c3,by rw[vQ,cE,hj];exact eG.vd c3⟩
      case measure=>simp[intOf];omega
     obtain⟨fn,D8⟩:∃fn:aa,r.bx=fn:=⟨r.bx.toNat,by omega⟩;have MU:fn<s.length:=by have:=nC.out;omega
     have dc:=de.cell fn;rw[oa (bn MU)]at dc;have wl6:=de.lt;have hfi:(fn:J)<n:=by omega
     have ir:e1 s r.bx=s[fn]:=by unfold e1;rw[D8,c7,bn MU];rfl
     have HZ0:=I (show s[fn]=false->p_ n s r=[]from λh=>by unfold p_;rw[aw (by rw[ir,h];simp)]);have yp:=I (show s[fn]=true->p_ n s r=e_ (ic r.g)++e_ (ic r.v)from λh=>by unfold p_;rw[aP ⟨by omega,by omega,by rw[ir,h]⟩]);generalize s[fn]=kL at*;have aco:=adJ (n:=n) (S:=s) D' GG;rw[D8]at NY;clear ir kF hf bm atj de
     cases kL
     .have cE:=I (HZ0 rfl);go_wp2_with fail
      go_roundw
      case rel=>exact⟨i+1,by go_num,aN,cp.trans c3,by rw[vQ,cE,hj];exact eG.vd c3⟩
      case measure=>simp[intOf];omega
     .have cE:=I (yp rfl);have n5:=I (Up Ln (gi.trans c3)).1;have Fu:=I (λlP(ai:Kept Ln lP)=>(Up lP ((gi.trans c3).trans ai)).2);have HO6:=I (eG.vd c3);have Fl:=I (show ((rs.take i).flatMap (p_ n s)).length<=96000 by omega);have HJ:=I (show (e_ (ic r.g)).length+(e_ (ic r.v)).length<=96 by have:=aco;rw[cE,fk]at this;exact this);have zN:=I (show Il<=Ln.heap.size from fN cp.size c3.size);clear aco aj2 Up;go_upto_region 16 with (go_at_call 57;refine n5.mono ?_;rintro e lP⟨v1,v2,v3,rfl,bd,a8,dI,dk⟩;have sE:=I (bb dI.reads dk);clear bd a8 dI dk)
      have o4:=HBX.kept sE.2;obtain⟨AT,JB⟩:=o4.p;have HR4:=I (Fu lP sE.2);clear NY o4;go_upto_region 17 with (go_at_call 57;refine HR4.mono ?_;rintro e xW⟨dr,eV,jP,rfl,bd,a8,dI,dk⟩;have Ks:=I (bb dI dk);clear bd a8 dI dk)
      have HO8:=I ((HO6.vd sE.2).vd Ks.2);have HI7:=I (hP.kept sE.1 Ks.2);have qq:=I (((cp.trans c3).trans sE.2).trans Ks.2);clear AT;go_upto_region 18 with (at_builtin;refine afu rfl (.tmp 86) (.tmp 87) rfl rfl HO8 rfl HI7 (by have:=Fl.out;have:=HJ.out;omega) qq.size ?_;intro v9 mb bd a8 dI;have q4:=I (bb bd (bb a8 dI));clear bd a8 dI)
      have k':=I (ll qq HO8 (bB _) q4.2.1);have O3:=I (Ks.1.other q4.2.1 (λg al aT=>Nat.lt_irrefl _ (bG (YO HO6 al) (fN sE.2.size (zp Ks.1 aT)))));go_wp2_with (at_builtin;refine afu rfl (.tmp 89) (.tmp 90) rfl rfl q4.1 rfl O3.reads (by have:=Fl.out;have:=HJ.out;rw[fk];omega) k'.size ?_;intro v10 S8 bd a8 dI;have H10:=I (bb bd a8);clear bd a8 dI)
      have T5:=I (ll k' q4.1 (bB _) H10.2);have bM:=I (show dj S8 Il v10 ((rs.take (i+1)).flatMap (p_ n s)) by rw[vQ,cE,<-nY];exact H10.1);go_roundw
      case rel=>exact⟨i+1,by go_num,aN,T5,bM⟩
      case measure=>simp[intOf];omega
    .obtain rfl:i=rs.length:=by omega
     have Rk:¬((rs:J)<rs.length):=by omega
     rw[x3]at dZ;have v8:=abO (rs:=rs) (n:=n) (S:=s) jH rs (bB _);rw[x3]at v8;have eb:=I (aeM _ _ _ _ dZ (by omega));have eG:=I dZ;have cp:=I ax;clear dZ ax v8;go_wp2_with (go_at_call 58;refine eb.mono ?_;rintro e lP⟨u7,rfl,bd,a8,dI⟩;have sE:=I (bb bd dI);clear bd a8 dI)
     go_ret;exact⟨_,rfl,by rw[<-cW];exact dj.low sE.1 mJ.size,mJ.trans (ll cp eG (bB _) sE.2)⟩
structure gl where
 d:J
 ins:List bC
 mem:List (List bC)
def j':cq:=⟨⟨#[]⟩,0,[],[],[]⟩
def bl(L:cO)(s:cq):cq:=if 0<=s.ms then L.sc[s.ms.toNat]?.getD j' else j'
def sR(n:aa)(rs:List br)(nb:List Bool)(m:J):List Bool:=oV (ma n rs m) (nb.set m.toNat true)
def fv(s m:cq)(d:J):List Bool:=(j9 s.ds s.rs d).foldl (sR m.ds m.rs) (List.replicate m.ds false)
def kV(tb:List lB)(dt:J)(bY:List bC):dT:=⟨dt,bY,[],[],[],tb⟩
noncomputable def Y5(Lf:gD)(E:dT)(s:cq)(nb:List Bool):List bC×J:=su Lf E s.rs nb (ox (gV s.ds s.rs)) (List.replicate s.ds v0)
def r7(L:cO)(m:cq)(c:gl)(ms:List (List bC)):dT:=⟨c.d,c.ins,[],ms,m.ds.map λf=>⟨f.k,f.e⟩,L.tb⟩
def vU.symm{A B:List br}{r s:br}(h:vU A B r s):vU B A s r:=
 ⟨h.aM.symm,h.bx.symm,h.d_.symm,h.cZ.symm,h.cT.symm,h.g.symm,h.v.symm,h.bJ.imp (λg=>⟨g.2,g.1⟩) (λ⟨a,b,p,q,ab,ad,ao⟩=>⟨b,a,q,p,ad,ab,ao.symm⟩)⟩
def n9(n:aa)(A:List br)(d e:J):Prop:=e=d\/e∈ma n A d
def Pm(n:aa)(A B:List br)(d:J):Prop:=∀r∈A,n9 n A d r.bx->∃s∈B,vU A B r s
def BS{n:aa}{rs:List br}{d e:J}(aE:0<=d/\d<n):e∈(gV n rs)[d.toNat]?.getD []↔rV n rs d e:=by
 have:=aiQ (n:=n) (rs:=rs) (d:=d.toNat) (by omega) (e:=e);rwa [E2 aE.1]at this
def aaC(n:aa)(rs:List br)(nb:List Bool)(m:J):(sR n rs nb m).length=nb.length:=by unfold sR;rw[R_,gJ]
theorem V1(n:aa)(rs:List br):∀(l:aW)(nb:List Bool),(l.foldl (sR n rs) nb).length=nb.length
 |[],_=>rfl
 |m::l,nb=>by rw[x6,V1 n rs l,aaC]
theorem aeI{n:aa}{rs:List br}:∀(l:aW)(nb:List Bool),nb.length=n->h8 n l->∀f:J,0<=f->(e1 (l.foldl (sR n rs) nb) f=true↔e1 nb f=true\/∃m∈l,n9 n rs m f)
 |[],nb,_,_,f,_=>by simp
 |m::l,nb,av,aJ,f,bV=>by
  have hm:=aJ m (by simp);rw[x6,aeI l _ (by rw[aaC];exact av) (λe he=>aJ e (by simp[he])) f bV];unfold sR;rw[aeJ _ _ (by rw[gJ,av];exact Oi n rs m) f bV,wD (by omega) bV];simp only[fM,exists_eq_or_imp,n9];constructor
  .rintro ((h|h)|h)
   .rcases h with h|h
    .exact .inl h
    .exact .inr (.inl (.inl h))
   .exact .inr (.inl (.inr h))
   .exact .inr (.inr h)
  .rintro (h|(h|h)|h)
   .exact .inl (.inl (.inl h))
   .exact .inl (.inl (.inr h))
   .exact .inl (.inr h)
   .exact .inr h
def adw(s m:cq)(d:J):(fv s m d).length=m.ds.length:=by unfold fv;rw[V1,iQ]
def aoW{s m:cq}{d:J}(aJ:h8 m.ds (j9 s.ds s.rs d)){f:J}(bV:0<=f):e1 (fv s m d) f=true↔∃e∈j9 s.ds s.rs d,n9 m.ds m.rs e f:=by
 unfold fv;rw[aeI _ _ (iQ ..) aJ f bV,G7];simp
structure pQ(s:cq):Prop where
 rs:Ic s.rs
 ac:∀d:J,¬pc (gV s.ds s.rs) d d
def pQ.top{s:cq}(h:pQ s):Ll s.ds s.rs (ox (gV s.ds s.rs))/\∀u:J,0<=u->u<s.ds.length->u∈ox (gV s.ds s.rs):=by
 obtain⟨ab,ad,ao,aR⟩:=YM (BU s.ds s.rs) (λl av=>Ak av) h.ac;refine⟨⟨ad,ab,λp t d aA e he=>aR p t d aA e ?_⟩,ao⟩;exact (BS (ad d (by rw[aA];simp))).2 he
structure UX(A B:cO)(a b:cq)(d:J):Prop where
 tb:A.tb=B.tb
 BV:0<=d/\d<a.ds.length
 ds:b.ds.length=a.ds.length
 md:(bl B b).ds=(bl A a).ds
 atL:pQ a
 YF:pQ b
 auD:pQ (bl A a)
 cn:pQ (bl B b)
 auQ:h8 (bl A a).ds.length (j9 a.ds a.rs d)
 ej:h8 (bl B b).ds.length (j9 b.ds b.rs d)
 pg:Pm a.ds a.rs b.rs d
 Q3:Pm a.ds b.rs a.rs d
 mab:∀e∈j9 a.ds a.rs d,Pm (bl A a).ds.length (bl A a).rs (bl B b).rs e
 mba:∀e∈j9 a.ds b.rs d,Pm (bl A a).ds.length (bl B b).rs (bl A a).rs e
def UX.symm{A B:cO}{a b:cq}{d:J}(h:UX A B a b d):UX B A b a d:=by
 have hm:(bl B b).ds.length=(bl A a).ds.length:=by rw[h.md]
 exact⟨h.tb.symm,by rw[h.ds];exact h.BV,h.ds.symm,h.md.symm,h.YF,h.atL,h.cn,h.auD,h.ej,h.auQ,by rw[h.ds];exact h.Q3,by rw[h.ds];exact h.pg,by rw[h.ds,hm];exact h.mba,by rw[h.ds,hm];exact h.mab⟩
noncomputable def gL(Lf:gD)(E:dT)(s:cq)(nb:List Bool):BD:=lN Lf E s.rs nb (ox (gV s.ds s.rs)) (List.replicate s.ds v0) (List.replicate s.ds 0)
def aeu(Lf:gD)(E:dT)(s:cq)(nb:List Bool):((gL Lf E s nb).bY,(gL Lf E s nb).c)=Y5 Lf E s nb:=JX _ _ _
structure Lt where
 bY:List bC
 us:aW
 c:J
 m:J
 d:J
 r:J
structure auk where
 ms:List (List bC)
 c:J
 m:J
 d:J
 r:J
structure Lo where
 v:bC
 cf:J
 c:J
 m:J
 d:J
 r:J
noncomputable def nq(Lf:gD)(tb:List lB)(dt:J)(m:cq)(nb:List Bool):J->List (List bC)->List (List bC)->auk
 |_,[],acc=>⟨acc,0,0,0,0⟩
 |j,bY::r,acc=>if (gL Lf (kV tb dt bY) m nb).c≠0 then⟨[],(gL Lf (kV tb dt bY) m nb).c,j,(gL Lf (kV tb dt bY) m nb).d,(gL Lf (kV tb dt bY) m nb).r⟩
  else nq Lf tb dt m nb (j+1) r (acc++[(gL Lf (kV tb dt bY) m nb).bY])
def adn(Lf:gD)(tb:List lB)(dt:J)(m:cq)(nb:List Bool)(j:J)(bY:List bC)(r acc:List (List bC)):
  nq Lf tb dt m nb j (bY::r) acc=if (gL Lf (kV tb dt bY) m nb).c≠0 then⟨[],(gL Lf (kV tb dt bY) m nb).c,j,(gL Lf (kV tb dt bY) m nb).d,(gL Lf (kV tb dt bY) m nb).r⟩
   else nq Lf tb dt m nb (j+1) r (acc++[(gL Lf (kV tb dt bY) m nb).bY]):=by rw[nq]
noncomputable def qC(Lf:gD)(l:cO)(m s:cq)(c:gl)(nb cn:List Bool):Lt:=
 if (nq Lf l.tb c.d m cn 0 c.mem []).c≠0 then⟨[],[],(nq Lf l.tb c.d m cn 0 c.mem []).c,(nq Lf l.tb c.d m cn 0 c.mem []).m,(nq Lf l.tb c.d m cn 0 c.mem []).d,(nq Lf l.tb c.d m cn 0 c.mem []).r⟩
 else⟨(gL Lf (r7 l m c (nq Lf l.tb c.d m cn 0 c.mem []).ms) s nb).bY,(gL Lf (r7 l m c (nq Lf l.tb c.d m cn 0 c.mem []).ms) s nb).us,(gL Lf (r7 l m c (nq Lf l.tb c.d m cn 0 c.mem []).ms) s nb).c,-1,(gL Lf (r7 l m c (nq Lf l.tb c.d m cn 0 c.mem []).ms) s nb).d,(gL Lf (r7 l m c (nq Lf l.tb c.d m cn 0 c.mem []).ms) s nb).r⟩
noncomputable def mL(Lf:gD)(l:cO)(s:cq)(c:gl)(d:J):Lo:=
 if (qC Lf l (bl l s) s c (gM s.ds s.rs d) (fv s (bl l s) d)).c≠0 then⟨v0,0,(qC Lf l (bl l s) s c (gM s.ds s.rs d) (fv s (bl l s) d)).c,(qC Lf l (bl l s) s c (gM s.ds s.rs d) (fv s (bl l s) d)).m,(qC Lf l (bl l s) s c (gM s.ds s.rs d) (fv s (bl l s) d)).d,(qC Lf l (bl l s) s c (gM s.ds s.rs d) (fv s (bl l s) d)).r⟩
 else⟨(qC Lf l (bl l s) s c (gM s.ds s.rs d) (fv s (bl l s) d)).bY[d.toNat]?.getD v0,(qC Lf l (bl l s) s c (gM s.ds s.rs d) (fv s (bl l s) d)).us[d.toNat]?.getD 0,0,0,0,0⟩
def apa{Lf:gD}{E:dT}{rs:List br}{d:J}(h:(fW Lf E rs d).2.2.1=0):fW Lf E rs d=((fW Lf E rs d).1,(fW Lf E rs d).2.1,0,0):=by
 unfold fW at h⊢;split
 .rename_i ab;rw[aP ab]at h;exact absurd h ab
 .rename_i ab;rw[aw ab]at h;split
  .rename_i ad;rw[aP ad]at h
   cases h
  .rename_i ad;rw[aw ad]at h;split
   .rename_i ao;rw[aP ao]at h
    cases h
   .rename_i ao;rw[aw ao]at h;split
    .rename_i aR;rw[aP aR]at h;exact absurd h aR
    .rfl
section
variable {Lf:gD} {E:dT} {n:aa} {rs:List br} {nb:List Bool} {o:aW}
theorem ZB:∀(s:aW)(ds:List bC)(us:aW)(k:aa),(∀d∈s,d.toNat≠k)->(lN Lf E rs nb s ds us).us[k]?=us[k]?
 |[],_,_,_,_=>rfl
 |d::s,ds,us,k,h=>by
  rw[lN];split
  .exact ZB s ds us k λx aj=>h x (qY _ aj)
  .split
   .rfl
   .rw[ZB s _ _ k λx aj=>h x (qY _ aj),wK (h d (o2 ..))]
def aqC(s:aW)(ds:List bC)(us:aW)(k:aa)(h:∀d∈s,d.toNat≠k):(lN Lf E rs nb s ds us).bY[k]?=ds[k]?:=by
 have ad:=congrArg Prod.fst (JX (Lf:=Lf) (E:=E) (rs:=rs) (nb:=nb) s ds us);simp only at ad;rw[ad];exact SO s ds k h
def aou(bT:Ll n rs o):∀(s p:aW)(ds:List bC)(us:aW),o=p++s->ds.length=n->us.length=n->∀R,lN Lf E rs nb s ds us=R->R.c=0->
  ∀d∈s,gS nb d=true->R.us[d.toNat]?=some (fW Lf {E with ds:=R.bY} rs d).2.1:=by
 intro s;induction s with
 |nil=>intro p ds us _ _ _ R _ _ d aE;cases aE
 |cons x s bO=>
  intro p ds us aA av hu R aJ aq d aE aH;have iA:=bT.dz;rw[aA,Dc]at iA;obtain⟨-,Nb,Nc⟩:=iA;obtain⟨mV,nO⟩:=bT.inr x (by rw[aA];simp);have MZ:∀y∈s,0<=y:=λy bZ=>(bT.inr y (by rw[aA];simp[bZ])).1;have oT:∀y∈s,y.toNat≠x.toNat:=λy bZ=>toNat_ne (MZ y bZ) mV (λe=>(zD.1 Nb).1 (e▸bZ));have Ct:∀e∈p,∀y∈x::s,y.toNat≠e.toNat:=λe he y bZ=>toNat_ne (bT.inr y (by rw[aA];exact Hi _ bZ)).1 (bT.inr e (by rw[aA];simp[he])).1 (λa_=>Nc e he y bZ a_.symm);have QV:R.bY.length=n:=by
   have ad:=congrArg Prod.fst (JX (Lf:=Lf) (E:=E) (rs:=rs) (nb:=nb) (x::s) ds us);simp only at ad;rw[<-aJ,ad,Y6,av]
  have sg:∀k:aa,(∀y∈x::s,y.toNat≠k)->R.bY[k]?=ds[k]?:=λk ai=>by rw[<-aJ];exact aqC _ _ _ _ ai
  have dH:fW Lf {E with ds:=R.bY} rs x=fW Lf {E with ds:=ds} rs x:=Zf QV av (λe he=>sg _ (Ct e (bT.dep p s x aA e he)));rw[lN]at aJ;by_cases af:gS nb x=false
  .rw[aP af]at aJ;rcases fM.1 aE with rfl|aE
   .rw[af]at aH;cases aH
   .exact bO (p++[x]) ds us (by rw[aA];simp) av hu R aJ aq d aE aH
  .rw[aw af]at aJ;by_cases jj:(fW Lf {E with ds:=ds} rs x).2.2.1≠0
   .rw[aP jj]at aJ;rw[<-aJ]at aq;exact absurd aq jj
   .rw[aw jj]at aJ;rcases fM.1 aE with rfl|aE
    .rw[dH];have:=ZB (Lf:=Lf) (E:=E) (rs:=rs) (nb:=nb) s (ds.set d.toNat (fW Lf {E with ds:=ds} rs d).1) (us.set d.toNat (fW Lf {E with ds:=ds} rs d).2.1) d.toNat oT;rw[aJ,uk (by omega)]at this;exact this
    .exact bO (p++[x]) _ _ (by rw[aA];simp) (by rw[gJ];exact av) (by rw[gJ];exact hu) R aJ aq d aE aH
end
def EK{Lf:gD}{E:dT}{s:cq}{nb:List Bool}(h:pQ s)(ar:(gL Lf E s nb).c=0):(gL Lf E s nb).bY.length=s.ds.length/\(gL Lf E s nb).us.length=s.ds.length/\
  ∀d:J,0<=d->d<s.ds.length->gS nb d=true->∃v k,(gL Lf E s nb).bY[d.toNat]?=some v/\(gL Lf E s nb).us[d.toNat]?=some k/\fW Lf {E with ds:=(gL Lf E s nb).bY} s.rs d=(v,k,0,0):=by
 obtain⟨cr,bD⟩:=h.top;have aJ:=aeu Lf E s nb;generalize bk:gL Lf E s nb=X at*;have bH:su Lf E s.rs nb (ox (gV s.ds s.rs)) (List.replicate s.ds v0)=(X.bY,0):=by
  have:Y5 Lf E s nb=(X.bY,0):=by rw[<-aJ,ar]
  exact this
 have acH:=aoX cr bD bH;have hu:X.us.length=s.ds.length:=by
  rw[<-bk];unfold gL;rw[Y_,iQ]
 refine⟨acH.len,hu,λd d0 d1 aH=> ?_⟩;obtain⟨ab,ad⟩:=acH.yes d d0 d1 aH;have ao:=aou cr _ [] _ _ rfl (iQ ..) (iQ ..) X bk ar d (bD d d0 d1) aH;exact⟨_,_,ad,ao,apa ab⟩
def aos{Lf:gD}{E:dT}{s:cq}{nb:List Bool}(h:pQ s)(v:J->bC)(k:J->J)(dH:∀V:List bC,V.length=s.ds.length->(∀y:J,0<=y->y<s.ds.length->gS nb y=true->V[y.toNat]?=some (v y))->∀x:J,0<=x->x<s.ds.length->gS nb x=true->fW Lf {E with ds:=V} s.rs x=(v x,k x,0,0)):
  (gL Lf E s nb).c=0/\∀x:J,0<=x->x<s.ds.length->gS nb x=true->(gL Lf E s nb).bY[x.toNat]?=some (v x)/\(gL Lf E s nb).us[x.toNat]?=some (k x):=by
 obtain⟨cr,bD⟩:=h.top;obtain⟨V,c6⟩:∃V:List bC,V=(List.range s.ds).map (λi:aa=>if gS nb (i:J)=true then v i else v0):=⟨_,rfl⟩;have av:V.length=s.ds.length:=by rw[c6];simp
 have al:∀y:J,0<=y->y<s.ds.length->V[y.toNat]?=some (if gS nb y=true then v y else v0):=λy ar ab=>by
  rw[c6,hS,ZX (by omega),qi,E2 ar]
 have bZ:∀y:J,0<=y->y<s.ds.length->gS nb y=true->V[y.toNat]?=some (v y):=λy ar ab ad=>by rw[al y ar ab,aP ad]
 have aO:=dH V av bZ;have ajI:UU Lf E s.ds s.rs nb V:=⟨av,λd ar ab ad=>by rw[aO d ar ab ad];exact⟨rfl,bZ d ar ab ad⟩,λd ar ab ad=>by rw[al d ar ab,aw (by rw[ad];simp)]⟩;have aC:=aot cr bD ajI;have aJ:=aeu Lf E s nb;have gR:Y5 Lf E s nb=(V,0):=aC;rw[gR]at aJ;obtain⟨ab,ad⟩:=A9 aJ;refine⟨ad,λx ar nO aH=> ?_⟩;obtain⟨-,-,ao⟩:=EK h ad;obtain⟨w,q,aR,bw,eL⟩:=ao x ar nO aH;rw[ab]at aR eL;rw[aO x ar nO aH]at eL;simp only[q1,kN]at eL;obtain⟨rfl,rfl⟩:=eL;exact⟨by rw[ab];exact aR,bw⟩
def ai4(Lf:gD)(E:dT):hW Lf E [⟨1,0⟩]=(⟨1,0,0⟩,0):=by
 have ab:c' [⟨1,0⟩]=([0],0,0):=by decide
 unfold hW;rw[ab];simp[hQ,eP,tM,ti,r6,xX,zw,sX,ix,gd,iv]
def r2.det{kp:br->Bool}{rs:List br}{i:aa}{o zo:Option aa}(h:r2 kp rs i o)(ec:r2 kp rs i zo):o=zo:=by
 induction h with
 |self ab ad=>
  cases ec with
  |self _ _=>rfl
  |up g1 g2 _ _ _=>rw[ab]at g1;cases g1;rw[ad]at g2;cases g2
  |top g1 g2 _=>rw[ab]at g1;cases g1;rw[ad]at g2;cases g2
 |up ab ad ao aR bw bO=>
  cases ec with
  |self g1 g2=>rw[ab]at g1;cases g1;rw[ad]at g2;cases g2
  |up g1 g2 _ _ g5=>rw[ab]at g1;cases g1;exact bO g5
  |top g1 g2 g3=>rw[ab]at g1;cases g1;exact absurd ⟨ao,aR⟩ g3
 |top ab ad ao=>
  cases ec with
  |self g1 g2=>rw[ab]at g1;cases g1;rw[ad]at g2;cases g2
  |up g1 g2 g3 g4 _=>rw[ab]at g1;cases g1;exact absurd ⟨g3,g4⟩ ao
  |top _ _ _=>rfl
def anr{par:aW}{pri:aa->J}{apl:aa->Bool}:∀(F c i:aa),eu par pri apl F c=(i:aa)->apl i=true:=by
 intro F;induction F with
 |zero=>intro c i h;exact absurd h (by show¬(-1:J)=_;omega)
 |succ F bO=>
  intro c i h;rw[eu]at h;split at h
  .rename_i ab;have:c=i:=by omega
   rw[<-this];exact ab.2
  .obtain⟨d,-,aA⟩:=Sp (by omega) h;exact bO d i aA
def aoI{par:aW}{pri:aa->J}{apl:aa->Bool}{F i:aa}(h:xQ par pri apl F=(i:aa)):apl i=true:=by
 obtain⟨d,-,aA⟩:=Sp (by omega) h;exact anr F d i aA
structure ki(A B:List br)(ψ:aa->aa)(iH:aa->Prop):Prop where
 at_:∀(j:aa)(s:br),B[j]?=some s->∃r,A[ψ j]?=some r/\s.aM=r.aM/\s.bx=r.bx/\s.d_=r.d_/\s.cZ=r.cZ/\s.cT=r.cT/\s.src=r.src/\
  (iH (ψ j)->s.g=r.g/\s.v=r.v)/\(¬iH (ψ j)->s.g=[⟨1,0⟩]/\∃x:cw,s.v=[x]/\x.o≠8/\¬(36<=x.o/\x.o<=39))/\((r.bJ= -1/\s.bJ= -1)\/(0<=r.bJ/\0<=s.bJ/\s.bJ<j/\(ψ s.bJ.toNat:J)=r.bJ))
 mono:∀i j,i<j->j<B.length->ψ i<ψ j
 C1:∀i,iH i->i<A.length->∃j,j<B.length/\ψ j=i
section
variable {A B:List br} {ψ:aa->aa} {iH:aa->Prop} {d dt:J}
def ki.inj(h:ki A B ψ iH){i j:aa}(aD:i<B.length)(ay:j<B.length)(e:ψ i=ψ j):i=j:=by
 rcases Kc i j with ab|ab|ab
 .have:=h.mono _ _ ab ay;omega
 .exact ab
 .have:=h.mono _ _ ab aD;omega
def ki.keep(h:ki A B ψ iH){j:aa}{s:br}(ay:B[j]?=some s):∃r,A[ψ j]?=some r/\bz d dt r=bz d dt s/\r.d_=s.d_/\r.bx=s.bx:=by
 obtain⟨r,ab,-,ad,ao,aR,bw,-⟩:=h.at_ j s ay;exact⟨r,ab,by unfold bz;rw[ad,aR,bw],ao.symm,ad.symm⟩
def ki.YC(h:ki A B ψ iH){j:aa}{o:Option aa}(aH:r2 (bz d dt) B j o):r2 (bz d dt) A (ψ j) (o.map ψ)/\∀m,o=some m->∃s,B[m]?=some s/\bz d dt s=true:=by
 induction aH with
 |self ab ad=>
  obtain⟨r,g1,g2,-⟩:=h.keep (d:=d) (dt:=dt) ab;exact⟨.self g1 (by rw[g2];exact ad),λm hm=>by obtain rfl:=cJ hm;exact⟨_,ab,ad⟩⟩
 | @up j s o ab ad ao aR bw bO=>
  obtain⟨r,g1,g2,-⟩:=h.keep (d:=d) (dt:=dt) ab;obtain⟨lo,L',-,-,-,-,-,-,-,-,hp⟩:=h.at_ _ _ ab;obtain rfl:=cJ (g1.symm.trans L');rcases hp with⟨_,hp⟩|⟨dM,dQ,fP,kW⟩
  .omega
  .obtain⟨w1,w2⟩:=bO;have aN:=h.mono s.bJ.toNat j (by omega) (b2 ab).1;refine⟨.up g1 (by rw[g2];exact ad) dM (by omega) ?_,w2⟩;rw[show r.bJ.toNat=ψ s.bJ.toNat by omega];exact w1
 |top ab ad ao=>
  obtain⟨r,g1,g2,-⟩:=h.keep (d:=d) (dt:=dt) ab;obtain⟨lo,L',-,-,-,-,-,-,-,-,hp⟩:=h.at_ _ _ ab;obtain rfl:=cJ (g1.symm.trans L');refine⟨.top g1 (by rw[g2];exact ad) (λaT=> ?_),λm hm=>by cases hm⟩;rcases hp with⟨hp,_⟩|⟨dM,dQ,fP,kW⟩
  .omega
  .exact ao ⟨dQ,by omega⟩
def EA(A B:List br)(ψ:aa->aa)(d dt:J)(k:aa):aa:=hB (bz d dt) A (ψ ((b8 (bz d dt) B).1[k]?.getD 0))
def ki.emb(h:ki A B ψ iH){apl apl':aa->Bool}(bD:∀(j:aa)(s:br),B[j]?=some s->bz d dt s=true->apl' (hB (bz d dt) B j)=true->apl (hB (bz d dt) A (ψ j))=true):
  yd (EA A B ψ d dt) (b8 (bz d dt) A).2 (b8 (bz d dt) B).2 (λk=>(gG A (b8 (bz d dt) A).1)[k]?.getD 0) (λk=>(gG B (b8 (bz d dt) B).1)[k]?.getD 0) apl apl':=by
 have eR:=tm (bz d dt) A;have hO:=tm (bz d dt) B;have qK:∀k,k<(b8 (bz d dt) B).2.length->∃j s,(b8 (bz d dt) B).1[k]?=some j/\j<B.length/\B[j]?=some s/\bz d dt s=true/\hB (bz d dt) B j=k/\EA A B ψ d dt k=hB (bz d dt) A (ψ j):=λk ai=>by
  have jm:k<(b8 (bz d dt) B).1.length:=by rw[hO.mX,<-hO.pl];exact ai
  have al:=bn jm;obtain⟨ab,ad,s,ao,aR⟩:=hO.sq k _ al;exact⟨_,s,al,ab,ao,aR,ad,by unfold EA;rw[al,b9]⟩
 have Xr:∀(j:aa)(s:br),B[j]?=some s->bz d dt s=true->EA A B ψ d dt (hB (bz d dt) B j)=hB (bz d dt) A (ψ j):=λj s ay aO=>by
  unfold EA;rw[(hO.at_ j s (b2 ay).1 ay aO).1,b9]
 refine⟨λk ai=> ?_,λi j aD ay e=> ?_,λk p hp=> ?_,λk p hp=> ?_,λk ai=> ?_,λk ai jm=> ?_⟩
 .obtain⟨j,s,-,-,ad,ao,-,bw⟩:=qK k ai;obtain⟨r,g1,g2,-⟩:=h.keep (d:=d) (dt:=dt) ad;rw[bw];have:=eR.at_ _ r (b2 g1).1 g1 (by rw[g2];exact ao);obtain⟨q,-,az⟩:=this.2;exact (b2 az).1
 .obtain⟨x,s,-,bQ,ad,ao,aR,bw⟩:=qK i aD;obtain⟨y,t,-,dr,bt,bF,ck,cy⟩:=qK j ay;rw[bw,cy]at e;obtain⟨r,g1,g2,-⟩:=h.keep (d:=d) (dt:=dt) ad;obtain⟨q,f1,f2,-⟩:=h.keep (d:=d) (dt:=dt) bt;have:=h.inj bQ dr (abp g1 (by rw[g2];exact ao) f1 (by rw[f2];exact bF) e);rw[<-aR,<-ck,this]
 .obtain⟨j,s,-,GK,ad,ao,aR,bw⟩:=qK k (b2 hp).1;obtain⟨r,g1,g2,-⟩:=h.keep (d:=d) (dt:=dt) ad;obtain⟨-,q,az,iX⟩:=hO.at_ j s GK ad ao;rw[aR,hp]at iX;obtain rfl:=cJ iX;obtain⟨-,JQ,y_,akM⟩:=eR.at_ _ r (b2 g1).1 g1 (by rw[g2];exact ao);rw[bw,akM];congr 1;obtain⟨lo,L',-,-,-,-,-,-,-,-,hpp⟩:=h.at_ _ _ ad;obtain rfl:=cJ (g1.symm.trans L');rcases hpp with⟨aQ,a_⟩|⟨dM,dQ,fP,kW⟩
  .rcases az with⟨w,_⟩|⟨_,w⟩
   .omega
   .rcases y_ with⟨x,_⟩|⟨_,x⟩
    .omega
    .rw[w,x];rfl
  .have aN:=h.mono s.bJ.toNat j (by omega) GK;rcases az with⟨_,_,o,w1,w2⟩|⟨w,_⟩
   .rcases y_ with⟨_,_,atL,bQ,cx⟩|⟨x,_⟩
    .obtain⟨dr,eV⟩:=h.YC w1;rw[show r.bJ.toNat=ψ s.bJ.toNat by omega]at bQ;have:=bQ.det dr;rw[w2,cx,this]
     cases o with
     |none=>rfl
     |some m=>
      obtain⟨s',fL,z2⟩:=eV m rfl;show ((hB (bz d dt) A (ψ m):aa):J)=iM _ ((hB (bz d dt) B m:aa):J);unfold iM;rw[aw (by omega),c7,Xr m s' fL z2]
    .exact absurd ⟨dM,by omega⟩ x
   .exact absurd ⟨dQ,fP⟩ w
 .obtain⟨j,s,-,GK,ad,ao,aR,-⟩:=qK k (b2 hp).1;obtain⟨-,q,az,iX⟩:=hO.at_ j s GK ad ao;rw[aR,hp]at iX;obtain rfl:=cJ iX;exact adZ ad ao aR az
 .obtain⟨j,s,jm,GK,ad,ao,aR,bw⟩:=qK k ai;obtain⟨r,g1,g2,g3,-⟩:=h.keep (d:=d) (dt:=dt) ad;have lI:=(eR.at_ _ r (b2 g1).1 g1 (by rw[g2];exact ao)).1;show (gG A (b8 (bz d dt) A).1)[_]?.getD 0=(gG B (b8 (bz d dt) B).1)[k]?.getD 0;unfold gG;rw[bw,hS,hS,lI,jm,qi,qi,b9,b9,g1,ad,b9,b9,g3]
 .obtain⟨j,s,-,-,ad,ao,aR,bw⟩:=qK k ai;rw[bw];exact bD j s ad ao (by rw[aR];exact jm)
def ki.G6(h:ki A B ψ iH){Lf:gD}{E E':dT}(D7:E'.dt=E.dt){d:J}{q:aa}(az:e0 Lf E A d=((q:J),0,0))(bE:iH q)(al:∀i r,A[i]?=some r->r.bx=d->iH i->hW Lf E' r.g=hW Lf E r.g):
  ∃j:aa,j<B.length/\ψ j=q/\e0 Lf E' B d=((j:J),0,0):=by
 have eR:=tm (bz d E.dt) A;have hO:=tm (bz d E.dt) B;obtain⟨eS,a2⟩:=Io (Lf:=Lf) (E:=E) (rs:=A) (b8 (bz d E.dt) A).1 [];obtain⟨c9,bW⟩:=Io (Lf:=Lf) (E:=E') (rs:=B) (b8 (bz d E.dt) B).1 [];unfold e0 at az;by_cases cK:(fw Lf E A (b8 (bz d E.dt) A).1 []).2.1≠0
 .rw[aP cK]at az;simp only[q1]at az;exact absurd az.2.1 cK
 rw[aw cK]at az;have Vf:(fw Lf E A (b8 (bz d E.dt) A).1 []).2.1=0:=by omega
 have ajJ:=eS.1 Vf;have uU:=a2 Vf;rw[qj]at uU;have Rc:∀j s,B[j]?=some s->bz d E.dt s=true->(s.g.length=0\/(hW Lf E' s.g).2=0)/\(decide (s.g.length=0\/(hW Lf E' s.g).1.n=1)=true->∃r,A[ψ j]?=some r/\decide (r.g.length=0\/(hW Lf E r.g).1.n=1)=true):=λj s ay aO=>by
  obtain⟨r,g1,-,g2,-,-,-,-,g3,g4,-⟩:=h.at_ j s ay;obtain⟨lo,f1,f2,-⟩:=h.keep (d:=d) (dt:=E.dt) ay;obtain rfl:=cJ (g1.symm.trans f1);by_cases av:iH (ψ j)
  .rw[(g3 av).1,al _ r g1 (g2.symm.trans (xF aO)) av];have dG:=(eR.at_ _ r (b2 g1).1 g1 (by rw[f2];exact aO)).1;have:=ajJ _ (fe dG);rw[g1,b9]at this;exact⟨this,λaT=>⟨r,g1,aT⟩⟩
  .rw[(g4 av).1,ai4];exact⟨.inr rfl,λaT=>by simp at aT⟩
 have atz:(fw Lf E' B (b8 (bz d E.dt) B).1 []).2.1=0:=c9.2 λj ay=>by
  obtain⟨k,ai⟩:=mc ay;obtain⟨-,-,s,ab,ad⟩:=hO.sq k j ai;rw[ab,b9];exact (Rc j s ab ad).1
 have rr:=bW atz;rw[qj]at rr;by_cases uY:kz (b8 (bz d E.dt) A).2 (gG A (b8 (bz d E.dt) A).1) (fw Lf E A (b8 (bz d E.dt) A).1 []).1<0
 .rw[aP uY]at az;simp only[q1,kN]at az;omega
 rw[aw uY]at az;simp only[q1,kN]at az;have Xa:=G4 (par:=(b8 (bz d E.dt) A).2) (pri:=gG A (b8 (bz d E.dt) A).1) (apl:=(fw Lf E A (b8 (bz d E.dt) A).1 []).1) (by omega);obtain⟨et,my⟩:∃et:aa,kz (b8 (bz d E.dt) A).2 (gG A (b8 (bz d E.dt) A).1) (fw Lf E A (b8 (bz d E.dt) A).1 []).1=(et:aa):=⟨_,(E2 (by omega)).symm⟩;rw[my]at az Xa;rw[c7]at az;have akc:et<(b8 (bz d E.dt) A).1.length:=by rw[eR.mX,<-eR.pl];omega
 have hLq:(b8 (bz d E.dt) A).1[et]?=some q:=by
  have qJ:=bn akc;rw[qJ,b9]at az;rw[qJ];congr 1;omega
 obtain⟨Xw,nn,avH,Jk,W_⟩:=eR.sq et q hLq;obtain⟨j,ay,s8⟩:=h.C1 q bE Xw;have Ec:=bn ay;obtain⟨lo,f1,f2,-⟩:=h.keep (d:=d) (dt:=E.dt) Ec;rw[s8]at f1;obtain rfl:=cJ (Jk.symm.trans f1);have M6:bz d E.dt B[j]=true:=by rw[<-f2];exact W_
 have QI:=(hO.at_ j _ ay Ec M6).1;have akd:hB (bz d E.dt) B j<(b8 (bz d E.dt) B).2.length:=by rw[hO.pl,<-hO.mX];exact (b2 QI).1
 unfold kz at my;by_cases cr:o1 (b8 (bz d E.dt) A).2 (gG A (b8 (bz d E.dt) A).1)=true/\(fw Lf E A (b8 (bz d E.dt) A).1 []).1.length=(b8 (bz d E.dt) A).2.length
 case neg=>
  rw[aw cr]at my;omega
 rw[aP cr]at my;have QZ:=aoI my;have Gm:=h.emb (d:=d) (dt:=E.dt) (apl:=λi=>(fw Lf E A (b8 (bz d E.dt) A).1 []).1[i]?.getD false) (apl':=λi=>(fw Lf E' B (b8 (bz d E.dt) B).1 []).1[i]?.getD false) (λx s aj aO MH=>by
  have ab:=(hO.at_ x s (b2 aj).1 aj aO).1;rw[rr,hS,ab,qi,b9,aj,b9]at MH;obtain⟨r,g1,g2⟩:=(Rc x s aj aO).2 MH;obtain⟨lo,aQ,a_,-⟩:=h.keep (d:=d) (dt:=E.dt) aj;obtain rfl:=cJ (g1.symm.trans aQ);have ad:=(eR.at_ _ r (b2 g1).1 g1 (by rw[a_];exact aO)).1;rw[uU,hS,ad,qi,b9,g1,b9];exact g2)
 have Xr:EA A B ψ d E.dt (hB (bz d E.dt) B j)=et:=by
  unfold EA;rw[QI,b9,s8,nn]
 have ajM:(fw Lf E' B (b8 (bz d E.dt) B).1 []).1[hB (bz d E.dt) B j]?.getD false=true:=by
  rw[rr,hS,QI,qi,b9,Ec,b9];rw[uU,hS,hLq,qi,b9,Jk,b9]at QZ;obtain⟨iC,g1,-,g2,-,-,-,-,g3,-⟩:=h.at_ j _ Ec;rw[s8]at g1 g3;obtain rfl:=cJ (Jk.symm.trans g1);rw[(g3 bE).1,al _ _ Jk (xF W_) bE];exact QZ
 have asb:(b8 (bz d E.dt) B).2.length<=(b8 (bz d E.dt) A).2.length:=by
  have wi:((List.range (b8 (bz d E.dt) B).2.length).map (EA A B ψ d E.dt)).Nodup:=by
   refine List.pairwise_map.2 (List.nodup_range.imp_of_mem λ{a b}bD af bU e=>bU ?_);exact Gm.inj a b (me.1 bD) (me.1 af) e
  have:=wi.length_le_of_subset (l₂:=List.range (b8 (bz d E.dt) A).2.length) (λx aj=>by
   obtain⟨k,ai,rfl⟩:=o3.1 aj;exact me.2 (Gm.lt k (me.1 ai)))
  simpa using this
 have akn:=((G' (par:=(b8 (bz d E.dt) A).2) (pri:=gG A (b8 (bz d E.dt) A).1) (by unfold gG;rw[er,eR.mX,eR.pl])).1 cr.1);have XH:o1 (b8 (bz d E.dt) B).2 (gG B (b8 (bz d E.dt) B).1)=true:=by
  refine (G' (by unfold gG;rw[er,hO.mX,hO.pl])).2 ⟨by omega,λk p hp=> ?_⟩;have fu:=(b2 hp).1;obtain⟨bq,b5⟩:=Gm.low k p hp;have Gy:=Gm.zs k fu;obtain⟨-,-,bd,a8⟩:=akn.2 _ _ (Gm.Ez k p hp);rw[Gy]at bd a8;exact⟨bq,b5,bd,a8⟩
 have rB:=Gm.G6 (b8 (bz d E.dt) A).2.length akd ajM (by rw[Xr];exact my);have acs:=aoJ (par:=(b8 (bz d E.dt) B).2) (pri:=λk=>(gG B (b8 (bz d E.dt) B).1)[k]?.getD 0) (apl:=λi=>(fw Lf E' B (b8 (bz d E.dt) B).1 []).1[i]?.getD false) (λi p hp=>by have:=(Gm.low i p hp).2;omega) ((b8 (bz d E.dt) A).2.length-(b8 (bz d E.dt) B).2.length);rw[show (b8 (bz d E.dt) B).2.length+((b8 (bz d E.dt) A).2.length-(b8 (bz d E.dt) B).2.length)=(b8 (bz d E.dt) A).2.length by omega,rB]at acs;refine⟨j,ay,s8,?_⟩;unfold e0;rw[D7,aw (by rw[atz];simp)];have Nh:kz (b8 (bz d E.dt) B).2 (gG B (b8 (bz d E.dt) B).1) (fw Lf E' B (b8 (bz d E.dt) B).1 []).1=((hB (bz d E.dt) B j:aa):J):=by
  unfold kz;rw[aP ⟨XH,by rw[rr,er,hO.mX,hO.pl]⟩];exact acs.symm
 rw[Nh,aw (by omega),c7,QI,b9]
def ki.step(h:ki A B ψ iH){Lf:gD}{E E':dT}(D7:E'.dt=E.dt){d:J}{q:aa}{v:bC}(az:fW Lf E A d=(v,(q:J),0,0))(bE:iH q)(al:∀i r,A[i]?=some r->r.bx=d->iH i->hW Lf E' r.g=hW Lf E r.g/\hW Lf E' r.v=hW Lf E r.v):
  ∃j:aa,j<B.length/\ψ j=q/\fW Lf E' B d=(v,(j:J),0,0):=by
 unfold fW at az;by_cases ar:(e0 Lf E A d).2.1≠0
 .rw[aP ar]at az;simp only[q1]at az;exact absurd az.2.2.1 ar
 rw[aw ar]at az;by_cases ab:(e0 Lf E A d).1= -1
 .rw[aP ab]at az;simp at az
 rw[aw ab]at az;by_cases ad:(e0 Lf E A d).1= -2
 .rw[aP ad]at az;simp at az
 rw[aw ad]at az;by_cases ao:(hW Lf E (A[(e0 Lf E A d).1.toNat]?.getD jz).v).2≠0
 .rw[aP ao]at az;simp only[q1]at az;exact absurd az.2.2.1 ao
 rw[aw ao]at az;simp only[q1,kN]at az;obtain⟨aK,aO⟩:=az;have Md:(e0 Lf E A d).2.1=0:=by omega
 have rB:e0 Lf E A d=((q:J),0,0):=by
  have h22:(e0 Lf E A d).2.2=0:=by
   have:=Md;unfold e0 at this⊢;split
   .rename_i aT;rw[aP aT]at this;exact absurd this aT
   .split<;>rfl
  exact Prod.ext aO (Prod.ext Md h22)
 obtain⟨j,ay,s8,bc⟩:=h.G6 D7 rB bE (λi r aD aE av=>(al i r aD aE av).1);refine⟨j,ay,s8,?_⟩;have Ec:=bn ay;obtain⟨r,g1,-,g2,-,-,-,-,g3,-⟩:=h.at_ j _ Ec;rw[s8]at g1 g3;have Gk:r.bx=d:=by
  have R:=tm (bz d E'.dt) B;unfold e0 at bc;split at bc
  .simp only[q1]at bc;rename_i aT;exact absurd bc.2.1 aT
  .split at bc
   .simp only[q1,kN]at bc;omega
   .simp only[q1,kN]at bc;rename_i aT;have asf:=G4 (par:=(b8 (bz d E'.dt) B).2) (pri:=gG B (b8 (bz d E'.dt) B).1) (apl:=(fw Lf E' B (b8 (bz d E'.dt) B).1 []).1) (by omega);have fu:(kz (b8 (bz d E'.dt) B).2 (gG B (b8 (bz d E'.dt) B).1) (fw Lf E' B (b8 (bz d E'.dt) B).1 []).1).toNat<(b8 (bz d E'.dt) B).1.length:=by rw[R.mX,<-R.pl];omega
    have qJ:=bn fu;obtain⟨-,-,s,aQ,a_⟩:=R.sq _ _ qJ;rw[qJ,b9]at bc;rw[show (b8 (bz d E'.dt) B).1[_]=j by omega,Ec]at aQ;obtain rfl:=cJ aQ;exact g2.symm.trans (xF a_)
 rw[aO,c7,g1,b9]at aK ao;have p5:=(al q r g1 Gk bE).2;unfold fW;rw[bc];rw[aw (by simp),aw (by simp only;omega),aw (by simp only;omega),c7,Ec,b9,(g3 bE).2,p5,aw ao,aK]
end
def kD:ez:=⟨#[]⟩
structure ScV(L:cO)(s:cq):Prop where
 ok:pQ s
 ek:∀(i j:aa)(f g:mI),s.ds[i]?=some f->s.ds[j]?=some g->f.aM=g.aM->i=j
 rd:∀r∈s.rs,0<=r.bx/\r.bx<s.ds.length
 di:∀r∈s.rs,r.aM≠kD
 ms:s.ms= -1\/(0<=s.ms/\s.ms<L.sc.length)
 auF:∀r∈s.rs,∀e,(e∈ic r.g\/e∈ic r.v)->0<=s.ms/\0<=e/\e<(bl L s).ds.length
structure UL(L:cO):Prop where
 e1:∀(i j:aa)(s t:cq),L.sc[i]?=some s->L.sc[j]?=some t->s.aM=t.aM->i=j
 sc:∀s∈L.sc,ScV L s
section
variable {A B:cO}
def aeN:pQ j':=by
 refine⟨⟨λi j r s h=>by simp[j']at h,λi r h=>by simp[j']at h⟩,λd h=> ?_⟩;have:=h.CB (n:=0) (Aj 0 []);omega
def UL.bl(h:UL A){s:cq}(aO:s∈A.sc):pQ (bl A s)/\(0<=s.ms->bl A s∈A.sc)/\∀d:J,0<=d/\d<s.ds.length->h8 (bl A s).ds.length (j9 s.ds s.rs d):=by
 have aK:=h.sc s aO;have hm:0<=s.ms->Go.Proofs.YtilhklpfkgbikaaGreatDoor.bl A s∈A.sc:=λar=>by
  have aN:s.ms.toNat<A.sc.length:=by rcases aK.ms with h|h<;>omega
  unfold Go.Proofs.YtilhklpfkgbikaaGreatDoor.bl;rw[aP ar,bn aN,b9];exact vH aN
 refine⟨?_,hm,λd aE e he=> ?_⟩
 .by_cases ar:0<=s.ms
  .exact (h.sc _ (hm ar)).ok
  .unfold Go.Proofs.YtilhklpfkgbikaaGreatDoor.bl;rw[aw ar];exact aeN
 .rw[NM aE]at he;obtain⟨r,aC,-,-,ao⟩:=he;exact (aK.auF r aC e ao).2
end
def Sb{l:List cw}{x:cw}(aj:x∈l)(ab:36<=x.o)(ad:x.o<=39):x.n∈ic l:=by
 unfold ic;exact o3.2 ⟨x,uq.2 ⟨aj,by simp;omega⟩,rfl⟩
def ki.same{A:List br}(h:Ic A):ki A A id (λ_=>True):=by
 refine⟨λj s ay=>⟨s,ay,rfl,rfl,rfl,rfl,rfl,rfl,λ_=>⟨rfl,rfl⟩,λaT=>absurd trivial aT,?_⟩,λi j ab _=>ab,λi _ aD=>⟨i,aD,rfl⟩⟩;rcases h.bJ j s ay with ab|⟨ab,ad,-⟩
 .exact .inl ⟨ab,ab⟩
 .exact .inr ⟨ab,ab,ad,by simp only[id];omega⟩
open Classical in
noncomputable def SA(m:aa)(ψ:aa->aa)(q:aa):aa:=if h:∃j,j<m/\ψ j=q then Classical.choose h else 0
def ad5{A B:List br}{ψ:aa->aa}{iH:aa->Prop}(h:ki A B ψ iH){j q:aa}(ay:j<B.length)(e:ψ j=q):SA B ψ q=j:=by
 have hex:∃j,j<B.length/\ψ j=q:=⟨j,ay,e⟩;unfold SA;rw[dif_pos hex];obtain⟨ab,ad⟩:=Ot hex;exact h.inj ab ay (ad.trans e.symm)
def Y7{Lf:gD}{E E':dT}{s s':cq}{nb nb':List Bool}{ψ:aa->aa}{iH:aa->Prop}(aO:pQ s)(Jl:pQ s')(av:s'.ds.length=s.ds.length)(aJ:ki s.rs s'.rs ψ iH)(ar:(gL Lf E s nb).c=0)(D7:E'.dt=E.dt)(dG:E'.ins=E.ins)(hmt:E'.mt=E.mt)(sk:E'.tb=E.tb)(gp:E'.ms.length=E.ms.length)(hC:∀x y:J,0<=x->x<s.ds.length->gS nb' x=true->rV s.ds s'.rs x y->gS nb' y=true)(wi:∀x:J,0<=x->x<s.ds.length->gS nb' x=true->gS nb x=true/\∀q:J,(gL Lf E s nb).us[x.toNat]?=some q->0<=q/\iH q.toNat)(sh:∀(i:aa)(r:br),s.rs[i]?=some r->iH i->gS nb' r.bx=true->∀f,(f∈ic r.g\/f∈ic r.v)->0<=f->∀(j:aa)(M FB:List bC),E'.ms[j]?=some M->E.ms[j]?=some FB->M[f.toNat]?=FB[f.toNat]?):
  (gL Lf E' s' nb').c=0/\∀x:J,0<=x->x<s.ds.length->gS nb' x=true->(gL Lf E' s' nb').bY[x.toNat]?=(gL Lf E s nb).bY[x.toNat]?/\
   ∃j q:aa,(gL Lf E' s' nb').us[x.toNat]?=some (j:J)/\(gL Lf E s nb).us[x.toNat]?=some (q:J)/\ψ j=q/\j<s'.rs.length:=by
 obtain⟨hh,iC,kY⟩:=EK aO ar;have key:=aos (Lf:=Lf) (E:=E') (s:=s') (nb:=nb') Jl (λx=>(gL Lf E s nb).bY[x.toNat]?.getD v0) (λx=>(SA s'.rs ψ ((gL Lf E s nb).us[x.toNat]?.getD 0).toNat:aa)) (λV c6 bZ x mV nO aH=>by
  rw[av]at c6 bZ nO;obtain⟨lH,az⟩:=wi x mV nO aH;obtain⟨v,k,aQ,a_,cv⟩:=kY x mV nO lH;obtain⟨et,Nw⟩:=az k a_;obtain⟨q,rfl⟩:=A_ et;rw[c7]at Nw;obtain⟨j,ay,s8,dH⟩:=aJ.step (Lf:=Lf) (E:={E with ds:=(gL Lf E s nb).bY}) (E':={E' with ds:=V}) D7 cv Nw (λi r aD aE bE=>by
   have sf:∀y:J,0<=y->y<s.ds.length->(y∈hZ r.g\/y∈hZ r.v)->V[y.toNat]?=(gL Lf E s nb).bY[y.toNat]?:=λy eU dr XU=>by
    obtain⟨R1,pn,Xq⟩:=aJ.C1 i bE (b2 aD).1;have al:=bn pn;obtain⟨lo,f1,-,f2,-,-,-,-,f3,-⟩:=aJ.at_ R1 _ al;rw[Xq]at f1 f3;obtain rfl:=cJ (aD.symm.trans f1);obtain⟨f4,f5⟩:=f3 bE;have hny:=hC x y mV nO aH ⟨⟨eU,dr⟩,_,fe al,f2.trans aE,by rw[f4,f5];exact XU⟩;rw[bZ y eU dr hny];have aN:y.toNat<(gL Lf E s nb).bY.length:=by rw[hh];omega
    rw[bn aN,b9]
   have Q_:∀y:J,0<=y->(y∈hZ r.g\/y∈hZ r.v)->V[y.toNat]?=(gL Lf E s nb).bY[y.toNat]?:=λy eU XU=>by
    by_cases dr:y<s.ds.length
    .exact sf y eU dr XU
    .rw[lR (by omega),lR (by omega)]
   have hag:∀e:List cw,(∀z∈hZ e,z∈hZ r.g\/z∈hZ r.v)->(∀z∈ic e,z∈ic r.g\/z∈ic r.v)->zH {E' with ds:=V} {E with ds:=(gL Lf E s nb).bY} e:=λe g1 g2=>
    ⟨D7,dG,hmt,sk,c6.trans hh.symm,gp,λz bP qX z0=>Q_ _ z0 (g1 _ (NN bP qX)),λz bP eS a2 z0 auz M FB m1 m2=>sh i r aD bE (by rw[aE];exact aH) _ (g2 _ (Sb bP eS a2)) z0 auz M FB m1 m2⟩
   exact⟨(hag r.g (λz h=> .inl h) (λz h=> .inl h)).eval,(hag r.v (λz h=> .inr h) (λz h=> .inr h)).eval⟩)
  rw[dH,aQ,a_,b9,b9,c7,ad5 aJ ay s8])
 refine⟨key.1,λx mV nO aH=> ?_⟩;obtain⟨au,bt⟩:=key.2 x mV (by rw[av];exact nO) aH;obtain⟨lH,az⟩:=wi x mV nO aH;obtain⟨v,k,aQ,a_,cv⟩:=kY x mV nO lH;obtain⟨et,Nw⟩:=az k a_;obtain⟨q,rfl⟩:=A_ et;rw[c7]at Nw;refine⟨by rw[au,aQ,b9],SA s'.rs ψ q,q,by rw[bt,a_,b9,c7],a_,?_⟩;have Xw:q<s.rs.length:=by
  have dH:=cv;unfold fW at dH;split at dH
  .simp only[q1]at dH;rename_i aT;exact absurd dH.2.2.1 aT
  .rename_i bP;split at dH
   .simp at dH
   .rename_i bD;split at dH
    .simp at dH
    .rename_i af;split at dH
     .simp only[q1]at dH;rename_i aT;exact absurd dH.2.2.1 aT
     .simp only[q1,kN]at dH;rcases aex (Lf:=Lf) (E:={E with ds:=(gL Lf E s nb).bY}) (rs:=s.rs) (d:=x) (by omega)with h|h|⟨k,ab,ad⟩
      .exact absurd h bD
      .exact absurd h af
      .omega
 obtain⟨j,ay,s8⟩:=aJ.C1 q Nw Xw;rw[ad5 aJ ay s8];exact⟨s8,ay⟩
theorem adm{Lf:gD}{tb:List lB}{dt:J}{m:cq}{nb:List Bool}:∀(l:List (List bC))(j:J)(acc:List (List bC)),((nq Lf tb dt m nb j l acc).c=0↔∀bY∈l,(gL Lf (kV tb dt bY) m nb).c=0)/\
  ((nq Lf tb dt m nb j l acc).c=0->(nq Lf tb dt m nb j l acc).ms=acc++l.map λbY=>(gL Lf (kV tb dt bY) m nb).bY)
 |[],j,acc=>by simp[nq]
 |bY::r,j,acc=>by
  rw[adn];by_cases h:(gL Lf (kV tb dt bY) m nb).c=0
  .rw[aw (λaT=>aT h)];obtain⟨ab,ad⟩:=adm (Lf:=Lf) (tb:=tb) (dt:=dt) (m:=m) (nb:=nb) r (j+1) (acc++[(gL Lf (kV tb dt bY) m nb).bY]);refine⟨by rw[ab];simp[h],λaT=>by rw[ad aT];simp⟩
  .rw[aP h];exact⟨⟨λaT=>absurd aT h,λaT=>absurd (aT bY (by simp)) h⟩,λaT=>absurd aT h⟩
noncomputable def xH(Lf:gD)(l:cO)(c:gl)(m:cq)(cn:List Bool)(bY:List bC):BD:=gL Lf (kV l.tb c.d bY) m cn
noncomputable def qT(Lf:gD)(l:cO)(c:gl)(m s:cq)(nb cn:List Bool):BD:=gL Lf (r7 l m c (c.mem.map λbY=>(xH Lf l c m cn bY).bY)) s nb
def BX{Lf:gD}{l:cO}{s:cq}{c:gl}{d:J}:((mL Lf l s c d).c=0↔(∀bY∈c.mem,(xH Lf l c (bl l s) (fv s (bl l s) d) bY).c=0)/\(qT Lf l c (bl l s) s (gM s.ds s.rs d) (fv s (bl l s) d)).c=0)/\
  ((mL Lf l s c d).c=0->mL Lf l s c d=⟨(qT Lf l c (bl l s) s (gM s.ds s.rs d) (fv s (bl l s) d)).bY[d.toNat]?.getD v0,(qT Lf l c (bl l s) s (gM s.ds s.rs d) (fv s (bl l s) d)).us[d.toNat]?.getD 0,0,0,0,0⟩):=by
 obtain⟨ab,ad⟩:=adm (Lf:=Lf) (tb:=l.tb) (dt:=c.d) (m:=bl l s) (nb:=fv s (bl l s) d) c.mem 0 [];have key:∀(h:(nq Lf l.tb c.d (bl l s) (fv s (bl l s) d) 0 c.mem []).c=0),qC Lf l (bl l s) s c (gM s.ds s.rs d) (fv s (bl l s) d)=⟨(qT Lf l c (bl l s) s (gM s.ds s.rs d) (fv s (bl l s) d)).bY,(qT Lf l c (bl l s) s (gM s.ds s.rs d) (fv s (bl l s) d)).us,(qT Lf l c (bl l s) s (gM s.ds s.rs d) (fv s (bl l s) d)).c,-1,(qT Lf l c (bl l s) s (gM s.ds s.rs d) (fv s (bl l s) d)).d,(qT Lf l c (bl l s) s (gM s.ds s.rs d) (fv s (bl l s) d)).r⟩:=λh=>by
  unfold qC;rw[aw (λaT=>aT h),ad h,qj];rfl
 by_cases h:(nq Lf l.tb c.d (bl l s) (fv s (bl l s) d) 0 c.mem []).c=0
 .have k:=key h;have hm:=ab.1 h;unfold mL;rw[k];dsimp only;by_cases ar:(qT Lf l c (bl l s) s (gM s.ds s.rs d) (fv s (bl l s) d)).c=0
  .rw[aw (λaT=>aT ar)];exact⟨⟨λ_=>⟨hm,ar⟩,λ_=>rfl⟩,λ_=>rfl⟩
  .rw[aP ar];exact⟨⟨λaT=>absurd aT ar,λaT=>absurd aT.2 ar⟩,λaT=>absurd aT ar⟩
 .have aq:(qC Lf l (bl l s) s c (gM s.ds s.rs d) (fv s (bl l s) d)).c≠0:=by
   unfold qC;rw[aP h];exact h
  have bU:(mL Lf l s c d).c≠0:=by
   unfold mL;rw[aP aq];exact aq
  exact⟨⟨λaT=>absurd aT bU,λaT=>absurd (ab.2 aT.1) h⟩,λaT=>absurd aT bU⟩
def n9.step{n:aa}{A:List br}{d e f:J}(aE:0<=d/\d<n)(h:n9 n A d e)(bV:rV n A e f):n9 n A d f:=by
 rcases h with rfl|h
 .exact .inr ((CK aE).2 (.one ((BS aE).2 bV)))
 .have aC:=((CK aE).1 h).CB (Aj n A);exact .inr ((CK aE).2 (.step ((CK aE).1 h) ((BS aC).2 bV)))
def n9.rg{n:aa}{A:List br}{d e:J}(aE:0<=d/\d<n)(h:n9 n A d e):0<=e/\e<n:=by
 rcases h with rfl|h
 .exact aE
 .exact ((CK aE).1 h).CB (Aj n A)
def n9.ind{n:aa}{A:List br}{d:J}(aE:0<=d/\d<n){P:J->Prop}(ar:P d)(aO:∀e f,P e->0<=e/\e<n->rV n A e f->P f){e:J}(h:n9 n A d e):P e:=by
 rcases h with rfl|h
 .exact ar
 .replace h:=(CK aE).1 h;induction h with
  |one ab=>exact aO _ _ ar aE ((BS aE).1 ab)
  |step ab ad bO=>
   have aC:=ab.CB (Aj n A);exact aO _ _ bO aC ((BS aC).1 ad)
def n9.trans{n:aa}{A:List br}{d e f:J}(aE:0<=d/\d<n)(h:n9 n A d e)(ad:n9 n A e f):n9 n A d f:=
 ad.ind (h.rg aE) (P:=λx=>n9 n A d x) h (λ_ _ p _ q=>p.step aE q)
def wG{n:aa}{A:List br}{d x:J}(aE:0<=d/\d<n)(aj:0<=x):gS (gM n A d) x=true↔n9 n A d x:=aeK aE aj
def afn{n:aa}{A:List br}{d:J}(aE:0<=d/\d<n):∀x y:J,0<=x->x<n->gS (gM n A d) x=true->rV n A x y->gS (gM n A d) y=true:=λ_ _ ar _ h ad=>
 (wG aE ad.1.1).2 (((wG aE ar).1 h).step aE ad)
def AL{s m:cq}{d:J}(aJ:h8 m.ds (j9 s.ds s.rs d)){f:J}(bV:0<=f):gS (fv s m d) f=true↔∃e∈j9 s.ds s.rs d,n9 m.ds m.rs e f:=aoW aJ bV
def Yy{s m:cq}{d:J}(aJ:h8 m.ds (j9 s.ds s.rs d)):∀x y:J,0<=x->x<m.ds.length->gS (fv s m d) x=true->rV m.ds m.rs x y->gS (fv s m d) y=true:=λ_ _ ar _ h ad=>by
 obtain⟨e,he,ao⟩:=(AL aJ ar).1 h;exact (AL aJ ad.1.1).2 ⟨e,he,ao.step (aJ e he) ad⟩
def Yr{n:aa}{A:List br}{d:J}(aE:0<=d/\d<n){r:br}(aC:r∈A)(az:n9 n A d r.bx){f:J}(bV:f∈ic r.g\/f∈ic r.v):f∈j9 n A d:=
 (NM aE).2 ⟨r,aC,az.rg aE,az,bV⟩
section
variable {Lf:gD} {l l':cO} {s s':cq} {c:gl} {d e:J} {ψ ψm:aa->aa} {iH FA:aa->Prop}
def abJ(Ef:∀r∈s.rs,0<=r.bx)(sk:l'.tb=l.tb)(aO:pQ s)(Jl:pQ s')(hm:pQ (bl l s))(M_:pQ (bl l' s'))(av:s'.ds.length=s.ds.length)(rv:(bl l' s').ds=(bl l s).ds)(aJ:ki s.rs s'.rs ψ iH)(QS:ki (bl l s).rs (bl l' s').rs ψm FA)(he:0<=e/\e<s.ds.length)(dG:h8 (bl l s).ds.length (j9 s.ds s'.rs e))(ar:(mL Lf l s c d).c=0)(aA:∀x:J,0<=x->x<s.ds.length->gS (gM s.ds s'.rs e) x=true->gS (gM s.ds s.rs d) x=true/\∀q:J,(qT Lf l c (bl l s) s (gM s.ds s.rs d) (fv s (bl l s) d)).us[x.toNat]?=some q->0<=q/\iH q.toNat)(jW:∀f:J,0<=f->f<(bl l s).ds.length->gS (fv s' (bl l' s') e) f=true->gS (fv s (bl l s) d) f=true/\∀bY∈c.mem,∀q:J,(xH Lf l c (bl l s) (fv s (bl l s) d) bY).us[f.toNat]?=some q->0<=q/\FA q.toNat):
  (mL Lf l' s' c e).c=0/\(mL Lf l' s' c e).v=(qT Lf l c (bl l s) s (gM s.ds s.rs d) (fv s (bl l s) d)).bY[e.toNat]?.getD v0/\
   ∃j q:aa,(mL Lf l' s' c e).cf=(j:J)/\(qT Lf l c (bl l s) s (gM s.ds s.rs d) (fv s (bl l s) d)).us[e.toNat]?=some (q:J)/\ψ j=q/\j<s'.rs.length:=by
 obtain⟨au,bt⟩:=BX (Lf:=Lf) (l:=l) (s:=s) (c:=c) (d:=d);obtain⟨g1,g2⟩:=BX (Lf:=Lf) (l:=l') (s:=s') (c:=c) (d:=e);obtain⟨bN,dZ⟩:=au.1 ar;have gp:(bl l' s').ds.length=(bl l s).ds.length:=by rw[rv]
 have acn:h8 (bl l' s').ds.length (j9 s'.ds s'.rs e):=by rw[gp,av];exact dG
 have mR:∀bY∈c.mem,(xH Lf l' c (bl l' s') (fv s' (bl l' s') e) bY).c=0/\∀f:J,0<=f->f<(bl l s).ds.length->gS (fv s' (bl l' s') e) f=true->(xH Lf l' c (bl l' s') (fv s' (bl l' s') e) bY).bY[f.toNat]?=(xH Lf l c (bl l s) (fv s (bl l s) d) bY).bY[f.toNat]?:=λbY lJ=>by
  have:=Y7 (Lf:=Lf) (E:=kV l.tb c.d bY) (E':=kV l'.tb c.d bY) (s:=bl l s) (s':=bl l' s') (nb:=fv s (bl l s) d) (nb':=fv s' (bl l' s') e) hm M_ gp QS (bN bY lJ) rfl rfl rfl sk rfl
   (λx y bX bQ aj sf=>Yy acn x y bX (by rw[gp];exact bQ) aj (by rw[gp];exact sf))
   (λx bX bQ aj=>⟨(jW x bX bQ aj).1,λq az=>(jW x bX bQ aj).2 bY lJ q az⟩)
   (λi r _ _ _ f _ _ j M FB ab _=>by simp[kV]at ab)
  exact⟨this.1,λf f0 f1 bV=>(this.2 f f0 f1 bV).1⟩
 have hlen:∀bY∈c.mem,(xH Lf l c (bl l s) (fv s (bl l s) d) bY).bY.length=(bl l s).ds.length:=λbY lJ=>(EK hm (bN bY lJ)).1;have akj:∀bY∈c.mem,(xH Lf l' c (bl l' s') (fv s' (bl l' s') e) bY).bY.length=(bl l s).ds.length:=λbY lJ=>(EK M_ (mR bY lJ).1).1.trans gp;have cN:=Y7 (Lf:=Lf) (E:=r7 l (bl l s) c (c.mem.map λbY=>(xH Lf l c (bl l s) (fv s (bl l s) d) bY).bY)) (E':=r7 l' (bl l' s') c (c.mem.map λbY=>(xH Lf l' c (bl l' s') (fv s' (bl l' s') e) bY).bY)) (s:=s) (s':=s') (nb:=gM s.ds s.rs d) (nb':=gM s'.ds s'.rs e) aO Jl av aJ dZ rfl rfl (by simp only[r7];rw[rv]) sk (by simp[r7])
  (λx y bX bQ aj sf=>by rw[av]at aj⊢;exact afn he x y bX bQ aj sf)
  (λx bX bQ aj=>by rw[av]at aj;exact aA x bX bQ aj)
  (λi r aD bE aj f bV f0 j M FB ab ad=>by
   simp only[r7,hS,Da]at ab ad;obtain⟨bY,lJ,rfl⟩:=ab;obtain⟨ZD,XR,rfl⟩:=ad;obtain rfl:=cJ (lJ.symm.trans XR);have Xh:=fe lJ;by_cases f1:f<(bl l s).ds.length
   .obtain⟨R1,pn,Xq⟩:=aJ.C1 i bE (b2 aD).1;have al:=bn pn;obtain⟨lo,aQ,-,a_,-,-,-,-,cv,-⟩:=aJ.at_ R1 _ al;rw[Xq]at aQ cv;obtain rfl:=cJ (aD.symm.trans aQ);obtain⟨h_,ko⟩:=cv bE;have af:=fe al;have Jk:n9 s.ds s'.rs e s'.rs[R1].bx:=by
     rw[a_];rw[av]at aj;exact (wG he (Ef r (fe aD))).1 aj
    have hmf:f∈j9 s.ds s'.rs e:=Yr he af Jk (by rw[h_,ko];exact bV);exact (mR bY Xh).2 f f0 f1 ((AL acn f0).2 ⟨f,by rw[av];exact hmf,.inl rfl⟩)
   .rw[lR (by rw[akj bY Xh];omega),lR (by rw[hlen bY Xh];omega)])
 have hG:(mL Lf l' s' c e).c=0:=g1.2 ⟨λbY lJ=>(mR bY lJ).1,cN.1⟩;have bU:gS (gM s'.ds s'.rs e) e=true:=by rw[av];exact (wG he he.1).2 (.inl rfl)
 obtain⟨w1,j,q,w2,ch,eK,c4⟩:=cN.2 e he.1 he.2 bU;rw[g2 hG];refine⟨rfl,?_,j,q,?_,ch,eK,c4⟩
 .show (qT Lf l' c (bl l' s') s' (gM s'.ds s'.rs e) (fv s' (bl l' s') e)).bY[e.toNat]?.getD v0=_;exact congrArg (λx=>Option.getD x v0) w1
 .show (qT Lf l' c (bl l' s') s' (gM s'.ds s'.rs e) (fv s' (bl l' s') e)).us[e.toNat]?.getD 0=_;exact (congrArg (λx=>Option.getD x 0) w2)
end
end Go.Proofs.YtilhklpfkgbikaaGreatDoor
