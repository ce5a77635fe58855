import Derived.Test.YtilhklpfkgbikaaGreatDoorY
set_option linter.all false
namespace Go.Proofs.YtilhklpfkgbikaaGreatDoor
open Go.RowKit Go.Proofs.Tryz
set_option maxRecDepth 100000
set_option maxHeartbeats 8000000
def R9{w w1:ag}{n:aa}(cN:w1.ownsRow w 3 1 (ae (some (w,0)) n n) n (madeCells (Value.int .i64 0).cells (n*1)).toList)(cu:w.grownBy w1 none):
  aB w1 w 3 (va (List.replicate n 0))/\Kept w w1:=by
 have e:=Ov (Value.int .i64 0) (n*1);rw[show (Value.int .i64 0).cells=#[Value.int .i64 0]from rfl,e]at cN;refine⟨?_,⟨cu.os,cu.tape,cu.output,cu.size,λb af=>cu.block b af (by simp)⟩⟩;have h:=PY cN (by simp);unfold va;rwa [jD,<-List.map_replicate]at h
def kP.Sh(v:ak):kP bf v:=λg h=>by cases h
def h6.start{w:ag}{B U T R g n:aa}{wt:aW}(ji:aB w U 46 (List.replicate n (ae none 0 0)).toArray)(bT:aB w T 3 (va wt))(al:aB w g 3 #[])(aJ:aB w R 194 #[ae (some (g,0)) 0 0])(ut:U≠T)(C3:U≠R)(o0:T≠R)(auu:g≠U)(gt:g≠T)(l4:g≠R)(fC:B<=U)(lt:B<=T)(zf:B<=R)(Yh:B<=g):
  h6 w B U T R (List.replicate n (ae none 0 0)) (List.replicate n []) (ae (some (g,0)) 0 0) [] bf [] wt:=by
 have key:∀(d:aa)(u:ak),(List.replicate n (Value.slice none 0 0)++[ae (some (g,0)) 0 0,ae none 0 0])[d]?=some u->u=ae none 0 0\/(d=n/\u=ae (some (g,0)) 0 0):=λd u h=>by
  rcases rT d n with aE|aE
  .rw[lQ (by simpa using aE),uj,aP aE]at h;exact .inl (cJ h).symm
  .rw[k4 (by simpa using aE),iQ]at h;by_cases ar:d=n
   .subst ar;rw[k7]at h;exact .inr ⟨rfl,(cJ h).symm⟩
   .by_cases ab:d=n+1
    .subst ab;rw[show n+1-n=1 by omega]at h;exact .inl (cJ h).symm
    .rw[lR (by simp;omega)]at h
     cases h
 have alS:∀(d:aa)(l:aW),(List.replicate n ([]:aW)++[[],[]])[d]?=some l->l=[]:=λd l h=>by
  have:=fe h;rw[k5]at this;rcases this with h|h
  .exact (Z0.1 h).2
  .simpa using h
 have cN:dj w B (ae (some (g,0)) 0 0) []:=⟨rfl,.inr ⟨g,0,#[],rfl,Yh,al,bB _,d' _,rfl,rfl⟩⟩;refine⟨ji,bT,aJ,⟨by simp,λd u l hu av=> ?_,λd fp u lO bU ab ad=> ?_,λd u hu x aj=> ?_,λx aj=> ?_⟩,by simp,ut,C3,o0,fC,lt,zf⟩
 .rw[alS d l av];rcases key d u hu with rfl|⟨_,rfl⟩
  .exact qh _ _ _ _
  .exact cN
 .rcases key d u ab with rfl|⟨aQ,rfl⟩
  .exact kP.Sh _
  .rcases key fp lO ad with rfl|⟨a_,rfl⟩
   .exact (kP.Sh _).symm
   .exact absurd (aQ.trans a_.symm) bU
 .rcases key d u hu with rfl|⟨_,rfl⟩
  .intro h;cases h
  .intro h;have:=cJ h;simp only[fM,nA,nd]at aj;simp only at this;rcases aj with rfl|rfl|rfl
   .exact auu this
   .exact gt this
   .exact l4 this
 .simp only[fM,nA,nd]at aj;rcases aj with rfl|rfl|rfl
  .exact ji.lt
  .exact bT.lt
  .exact aJ.lt
def ano(B:aa)(l:aW)(w:ag)(e:Ending)(w':ag):Prop:=∃u,e=bL (bj #[u,()])/\dj w' B u l/\Kept w w'
def Two.X'{w w1 w2:ag}{a:Option aa}{r:aa}(ai:Kept w w1)(h:Two w1 w2 a r)(aC:w<=r)(bD:∀g,a=some g->w.heap.size<=g):Kept w w2:=
 ⟨h.os.trans ai.os,h.tape.trans ai.tape,h.output.trans ai.output,fN ai.size h.size,λb af=>(h.block b (bG af ai.size) (by omega) (λe=>by have:=bD b e.symm;omega)).trans (ai.block b af)⟩
def acY{w w1 w2:ag}{a:Option aa}(ai:Kept w w1)(h:w1.grownBy w2 a)(bD:∀g,a=some g->w.heap.size<=g):Kept w w2:=
 ⟨h.os.trans ai.os,h.tape.trans ai.tape,h.output.trans ai.output,fN ai.size h.size,λb af=>(h.block b (bG af ai.size) (λe=>by have:=bD b e.symm;omega)).trans (ai.block b af)⟩
def agV{w:ag}{G n:aa}{b':List aW}(h:TA w (ae (some (G,0)) n n) b'):∀(d:aa)(es:aW),b'[d]?=some es->∃qd,aU w (G,d)=some qd/\gw w qd es:=by
 intro d es aE;obtain⟨A,cap,aK,_,_,aj⟩:=h;obtain⟨b,off,a7,af,aq⟩:=aj (by have:=(b2 aE).1;omega);simp only[i_]at aK;obtain⟨aK,-,-⟩:=aK;rw[<-aK]at a7;simp only[vF,wJ,kN]at a7;obtain⟨rfl,rfl⟩:=a7;obtain⟨qd,ab,ad⟩:=aq d es aE;unfold g' at ab;rw[ql,jD]at ab;exact⟨qd,ab,ad⟩
structure r1(w1 wr:ag)(U T R:aa)(b':List aW)(n d:aa)(cf:dN)(fC:List aW)(aK:ak)(rd wt:aW):Prop where
 es:h6 wr w1 U T R cf fC aK rd bf [] wt
 eZ:cf.length=n
 wl:wt.length=n
 auo:∀l∈fC,l.length<=1000*d
 rdl:rd.length<=d
 us:C4 (b'.drop d) d fC=vu b'
 rds:vn (b'.drop d) d rd=vn b' 0 []
 wts:∀k,k<d->dJ wt k=((b'[k]?.getD []).length:aa)
 kept:Kept w1 wr
def h6.aeo{w:ag}{B U T R:aa}{cf:dN}{fC:List aW}{aK:ak}{rd:aW}{gr:ak}{ib wt:aW}(_h:h6 w B U T R cf fC aK rd gr ib wt){d:aa}{l:aW}(av:fC[d]?=some l):(fC++[rd,ib])[d]?=some l:=by
 rw[lQ (b2 av).1];exact av
def h6.aov{w:ag}{B U T R:aa}{cf:dN}{fC:List aW}{aK:ak}{rd:aW}{gr:ak}{ib wt:aW}(_h:h6 w B U T R cf fC aK rd gr ib wt){d:aa}{u:ak}(av:cf[d]?=some u):(cf++[aK,gr])[d]?=some u:=by
 rw[lQ (b2 av).1];exact av
def h6.base{w:ag}{B ur U T R:aa}{cf:dN}{fC:List aW}{aK:ak}{rd:aW}{gr:ak}{ib wt:aW}(h:h6 w B U T R cf fC aK rd gr ib wt)(e:ur=B):h6 w ur U T R cf fC aK rd gr ib wt:=by
 subst e;exact h
def r1.next{w1 wr w':ag}{U T R:aa}{b':List aW}{n d:aa}{cf:dN}{fC:List aW}{aK:ak}{rd wt:aW}(h:r1 w1 wr U T R b' n d cf fC aK rd wt){es:aW}(al:b'[d]?=some es)(aE:d<n)(Gn:es.length<=1000){CV:dN}{wx:List aW}{Eh:ak}{ny:aW}(ab:h6 w' w1 U T R CV wx Eh ny bf [] (wt.set d es))(av:CV.length=n)(af:∀l∈wx,l.length<=1000*d+es.length)(ji:vV d es fC=wx)(aC:(if es.length=0 then zt rd d else rd)=ny)(ai:Kept w1 w'):r1 w1 w' U T R b' n (d+1) CV wx Eh ny (wt.set d es):=by
 have Aq:b'.drop d=es::b'.drop (d+1):=by
  rw[jA (b2 al).1,(b2 al).2]
 have ad:=h.us;have ao:=h.rds;have aR:=h.rdl;rw[Aq,C4,ji]at ad;rw[Aq,vn,aC]at ao;refine⟨ab,av,by rw[gJ];exact h.wl,λl hm=>by have:=af l hm;omega,?_,ad,ao,λk iz=> ?_,ai⟩
 .rw[<-aC];split
  .rw[ad6];omega
  .omega
 .by_cases e:d=k
  .subst e;rw[IQ (by rw[h.wl];exact aE),al];rfl
  .rw[Ma e];exact h.wts k (by omega)
def anp(v:ak)(x:cq)(w:ag)(bH:nF w v x)(aJ:qw x.rs)(aH:x.ds.length<=1000)(ph:∀d:J,¬pc (gV x.ds x.rs) d d):bg 59 #[v] w (ano w (ox (gV x.ds x.rs)) w):=by
 have cI:=I (λw1(ai:Kept w w1)=>U4 v x w1 (bH.kept ai) aJ aH);obtain⟨b7,dy,cD,rfl,b6,cY,l5⟩:=bH;obtain⟨jf,jo,rfl,-⟩:=b6;obtain⟨hT,ij,rfl,-⟩:=cY;obtain⟨eR,rc,rfl,-⟩:=l5;obtain⟨i0,aD,fY,cG,eM⟩:=hy Tryz.acT;obtain⟨jq,fx,fy,fz,fA⟩:=hy Tryz.td;have ks:=BU x.ds x.rs;have Br:=I (λl(h:l∈gV x.ds x.rs)=>Ak h);have tF:=I (St ks (λl h=>Ak h) ph);obtain⟨b',ME⟩:∃b',gV x.ds x.rs=b':=⟨_,rfl⟩;rw[ME]at ks Br tF⊢;have ry:(x.ds:J)<=1000:=by omega
 generalize x.ds.length=n at*;generalize x.ins.length=AN at*;generalize x.rs.length=auH at*;have lv:=I ks;have afM:=I ME;clear aJ ph ks ME;go_enter func59,ntmps59
 go_upto_region 1 with fail
 generalize aL:w.alloc _=W at*;obtain⟨aV,bo⟩:=Kept.aQ aL;clear aL;obtain⟨dX,cR⟩:=bo.p;have ke:=I (cI W aV);go_upto_region 2 with (go_at_call 56;refine ke.mono ?_;rintro e w1⟨G,us,rfl,g1,g2,g3⟩;rw[afM]at g1;have eQ:=I (bb g1 g3);clear g1 g2 g3)
 have OY:=I eQ.1.eH.lt;have aaf:=I (eQ.1.b' (by have:=lv.out;omega));rw[lv]at aaf;have ca:=aV.trans eQ.2;clear eQ cI ke dX cR bo;go_upto_region 3 with (at_make;refine rR _ rfl _ _ 150 rfl w1.heap.size 46 i0 bf 1 underlying150 aD fY cG _ _ _ _ n rfl rfl rfl rfl (by rw[eM];omega) (by unfold maxLen;omega) (bB _) ?_;intro w2 cN cu;have cB:=I (adi cN cu);clear cN cu)
 go_upto_region 4 with (at_make;refine rR _ rfl _ _ 46 rfl w2 3 jq () 1 underlying46 fx fy fz _ _ _ _ n rfl rfl rfl rfl (by rw[fA];omega) (by unfold maxLen;omega) (bB _) ?_;intro ch cN cu;have jS:=I (R9 cN cu);clear cN cu)
 go_upto_region 5 with fail
 have hU2:w1.heap.size<w2.heap.size:=cB.1.eH.lt;have D4:w2<ch.heap.size:=jS.1.lt;have eO:Kept w1 ch:=cB.2.trans jS.2;have mf:=h6.start (n:=n) (B:=w1.heap.size) (((cB.1.eH.kept jS.2).alloc (.cells #[] 3)).alloc (.cells #[ae (some (ch,0)) 0 0] 194)) ((jS.1.alloc (.cells #[] 3)).alloc (.cells #[ae (some (ch,0)) 0 0] 194))
  ((aB.new ch 3 #[]).alloc (.cells #[ae (some (ch,0)) 0 0] 194)) (by have:=aB.new (ch.alloc (.cells #[] 3)) 194 #[ae (some (ch,0)) 0 0];rwa [qf]at this)
  (by omega) (by omega) (by omega) (by omega) (by omega) (by omega) (bB _) (by omega) (by omega) (by omega)
 have eB:Kept w1 ((ch.alloc (.cells #[] 3)).alloc (.cells #[ae (some (ch,0)) 0 0] 194)):=(eO.alloc _).alloc _;have uF:=I (agV aaf);have hGl:G<w1.heap.size:=OY.out;have Mq:r1 w1 ((ch.alloc (.cells #[] 3)).alloc (.cells #[ae (some (ch,0)) 0 0] 194)) w1.heap.size w2 (ch.heap.size+1) b' n 0 _ _ _ [] _:=
  ⟨mf,iQ ..,iQ ..,λl av=>by rw[(Z0.1 av).2];exact d' _,bB _,by unfold vu;rw[lv];rfl,rfl,λk ai=>absurd ai (uo _),eB⟩
 have O6:=I Mq;clear Mq mf eB eO cB jS;generalize (ch.alloc (.cells #[] 3)).alloc (.cells #[ae (some (ch,0)) 0 0] 194)=U0 at*;generalize WC:w1.heap.size=U at*;generalize w2.heap.size=T at*;generalize ch.heap.size+1=R at*;have tH:=I WC;have Dm:=I (show G<w1.heap.size by rw[WC];exact hGl);clear WC hGl;go_upto_region 6 with fail
 go_loopw [29] (λy wr=>∃(d:aa)(cf:dN)(fC:List aW)(aK:ak)(rd wt:aW),y=ah d/\d<=n/\r1 w1 wr U T R b' n d cf fC aK rd wt) (λy _=>n-(intOf y).toNat)
 case atStart=>exact⟨0,_,_,_,_,_,rfl,d' _,O6⟩
 case round=>
  obtain⟨d,cf,fC,aK,rd,wt,rfl,rq,bE⟩:=hrel;by_cases aN:d<n
  .have al:b'[d]?=some (b'[d]'(by have:=lv.out;omega)):=bn _;obtain⟨iA,dG⟩:=Br.out _ (fe al);have Gn:=AO n _ iA dG;obtain⟨qd,cK,Nn⟩:=uF.out d _ al;generalize b'[d]'(by have:=lv.out;omega)=es at*;obtain⟨k9,fc,rfl,a1⟩:=gw.at_ Nn;have jF:=bE.kept.aI Dm cK;have hGr:=bG Dm bE.kept.size;have t0:=bE.es.tb.cell d;rw[AI (by rw[bE.wl];exact aN)]at t0;have Zn:=bE.es.tb.frozen d;have SX:=bE.es.tb.lt;have Cf:(d:J)<n:=by omega
   have iG:=I (bE.es.aeE d es);have qE:Kept w1 (wr.setCell ⟨T,d,none⟩ es):=bE.kept.setCell (p:=⟨T,d,none⟩) bE.es.lt _;have o7:=I qE;have dB:=I bE;have eQ:=I al;have cW:=I a1;have j5:=I (bb iA dG);have GB:=bE.eZ;have xr:=I bE.auo;have akO:=bE.rdl;clear bE qE cK Nn al a1 iA dG;go_upto_region 9 with fail
   clear t0 Zn SX jF;generalize wr.setCell ⟨T,d,none⟩ es=Il at*;obtain⟨UJ,hLU⟩:∃UJ,vV d es fC=UJ:=⟨_,rfl⟩;have T':=I hLU;clear hLU;go_upto_region 10 with fail
   go_loopw [41] (λy c4=>∃(j:aa)(CV:dN)(wx:List aW),y=ah j/\j<=es.length/\h6 c4 U U T R CV wx aK rd bf [] (wt.set d es)/\CV.length=n/\(∀l∈wx,l.length<=1000*d+j)/\vV d (es.drop j) wx=UJ/\Kept w1 c4) (λy _=>es.length-(intOf y).toNat)
   case atStart=>exact⟨0,cf,fC,rfl,d' _,tH▸iG,GB,xr,T',o7⟩
   case round=>
    obtain⟨j,CV,wx,rfl,ay,kr,RD,MJ,a6,ax⟩:=hrel;by_cases xw:j<es.length
    .obtain⟨ik,avp,rfl,WT,pY⟩:=cW.out (by omega);have nI:es[j]?=some es[j]:=bn xw;have hD:=j5.2 _ (fe nI);have bX:=pY j _ nI;rw[jA xw,vV]at a6;generalize es[j]=dw at*;obtain⟨bs,rfl⟩:∃bs:aa,dw=bs:=⟨dw.toNat,by omega⟩;rw[c7]at a6;have iI:=ax.aI WT bX;have arU:=bG WT ax.size;have qI:bs<CV.length:=by omega
     have ach:bs<wx.length:=by rw[<-kr.len];exact qI
     have cN:=kr.mM.own _ _ _ (kr.JV qI).1 (kr.JV qI).2;have u0:=kr.rO.cell bs;rw[hL,bn qI]at u0;have ul:=kr.rO.lt;have sg:=kr.mM.far _ _ (kr.JV qI).1 U (by simp);have hlen:=MJ _ (vH ach);have HU:=I (λ(dc:ag)(v:ak)(m:aW)=>(kr.alloc (.cells #[d] 3)).user (w':=dc) (v:=v) (m:=m) qI);have s5:wx[bs]?.getD []=wx[bs]:=by rw[bn ach];rfl
     rw[s5]at a6;have e3:=I MJ;have HUB:=I kr.rO;generalize p4:CV[bs]=u at*;generalize aj6:wx[bs]=S2 at*;obtain⟨gI,eg,rfl⟩:=iN cN;have sK:=I cN;have bS:=I (bb a6 (bb ax RD));have HFA:=I sg;have tG:=I p4;have hH:(j:J)<es.length:=by omega
     have hei:(bs:J)<n:=by omega
     have hUw:U<wr.heap.size:=ul;clear kr a6 ax RD cN sg MJ s5 aj6 p4;go_wp2_with (at_builtin;refine jB _ rfl (.tmp 50) (.tmp 52) 46 rfl U 3 jq () 1 8 underlying46 fx fy fz fA rfl (by decide) _ S2 (S2.map (.int .i64)) rfl (fX sK _) ⟨wr.heap.size,0,none⟩ 1 1 [ah d] rfl rfl (n0 _ _ _) (oY d) (by unfold maxLen;omega) (by omega) (by simp;omega) ?_;intro v6 dc bd a8 _ dk;have fL:dj dc U v6 (S2++[(d:J)]):=vq bd;obtain⟨wN,dn,rfl⟩:=iN bd;have zL:=(a8.block U (by simp;omega) (λe=>HFA e.symm)).trans (HUB.alloc _);have g6:=aB.cell zL bs;have f6:=aB.frozen zL bs;have fq:=aB.lt zL;rw[hL,bn qI]at g6;rw[tG]at g6;have gm:=I (bb fL (bb a8 dk));clear bd a8 dk fL zL)
     obtain⟨fL,z2,z3⟩:=gm.out;have Kz:=I (HU _ _ _ fL z2 z3);have lX:=I ((acY (bS.2.1.alloc (.cells #[d] 3)) z2 (λg al=>by rw[tH];exact zp sK al)).setCell (p:=⟨U,bs,none⟩) (by rw[tH];exact bB _) (ae wN (S2.length+1) dn));clear fL z2 z3;go_roundw
     case rel=>
      refine⟨j+1,_,_,by go_num,xw,Kz,by rw[gJ];exact bS.2.2,λl av=> ?_,bS.1,lX⟩;rcases ZP av with av|rfl
      .have:=e3.out l av;omega
      .rw[fk,sy];omega
     case measure=>simp[intOf];omega
    .obtain rfl:j=es.length:=by omega
     have hH:¬((es:J)<es.length):=by omega
     rw[E4,vV]at a6;have bS:=I (bb kr (bb RD (bb MJ (bb a6 ax))));clear kr RD MJ a6 ax;generalize wr=Ln at*;by_cases ar:es.length=0
     .have QE:(es:J)=0:=by omega
      have dU:=I (acg U R aK rd d Ln bS.1.hp (by omega) (by have:=bS.1.rO.lt;omega));have Au:=bS.1.mM.far _ _ bS.1.Jr.1;go_wp2_with (go_at_call 89;refine dU.mono ?_;rintro e lP⟨rfl,xU,bd,a8,dI⟩;have sE:=I (bb bd (bb a8 dI));clear bd a8 dI)
      obtain⟨bd,a8,dI⟩:=sE.out;have hE7:=bS.1.heap bd a8 dI;have hK7:Kept w1 lP:=Two.X' bS.2.2.2.2 a8 (by rw[tH];exact bS.1.zf) (λg al=>by rw[tH];exact zp bS.1.hp.own al);have cd:=dB.next eQ aN (by omega) (hE7.base tH) bS.2.1 bS.2.2.1 (T'.trans bS.2.2.2.1.symm) (by rw[aP ar]) hK7;have b3:=I cd;clear bd a8 dI hE7 hK7 cd;go_roundw
      case rel=>exact⟨d+1,_,_,_,_,_,by go_num,aN,b3⟩
      case measure=>simp[intOf];omega
     .have QE:¬(es:J)=0:=by omega
      have cd:=dB.next eQ aN (by omega) (bS.1.base tH) bS.2.1 bS.2.2.1 (T'.trans bS.2.2.2.1.symm) (by rw[aw ar]) bS.2.2.2.2;have b3:=I cd;clear cd;go_wp2_with fail
      go_roundw
      case rel=>exact⟨d+1,_,_,_,_,_,by go_num,aN,b3⟩
      case measure=>simp[intOf];omega
  .obtain rfl:d=n:=by omega
   have Q8:¬((d:J)<d):=by omega
   have Eg:fC=vu b':=by
    have:=bE.us;rwa [vD (by have:=lv.out;omega),C4]at this
   have Xy:rd=vn b' 0 []:=by
    have:=bE.rds;rwa [vD (by have:=lv.out;omega),vn]at this
   have Js:wt=A3 b':=by
    apply A8;intro k;have hwl:(A3 b').length=d:=by unfold A3;rw[er,lv]
    by_cases ai:k<d
    .have ab:=bE.wts k ai;have W7:k<b'.length:=by have:=lv.out;omega
     rw[bn W7,b9]at ab;unfold dJ at ab;rw[bn (by rw[bE.wl];exact ai),b9]at ab;rw[bn (by rw[bE.wl];exact ai),ab];unfold A3;rw[hS,bn W7];rfl
    .rw[lR (by rw[bE.wl];omega),lR (by omega)]
   have uP:=ac0 lv;rw[<-Js,<-Xy]at uP;have gO:=I (bb (show h6 wr U U T R cf fC aK rd bf [] wt from bE.es.base tH.out.symm) (bb uP (bb bE.eZ bE.kept)));have HU:=I Eg;have HTT:=I (show GL (vu b') (d+1) wt rd []=ox b' by rw[Js,Xy];unfold ox;rw[lv]);have T_:=I (λl(h:l∈b')=>Br l h);clear bE Eg Xy Js uP O6 Br;generalize wr=Il at*;go_upto_region 18 with fail
   go_loopg [12] (d+1) (λk gr wr=>∃(aK:ak)(rd ib wt:aW),h6 wr U U T R cf fC aK rd gr ib wt/\Dw b' d ib wt rd/\d<k+ib.length/\GL (vu b') k wt rd ib=ox b'/\Kept w1 wr)
   case atStart=>exact⟨aK,rd,[],wt,gO.1,gO.2.1,by simp,HTT,gO.2.2.2⟩
   case round=>
    obtain⟨CA,AU,ib,ZI,kr,uP,ai,a6,ax⟩:=hrel;have ast:=AO d ib (Dc.1 uP.dz).1 (λe he=>uP.inr e (Ow _ he));have akO:=AO d AU (Dc.1 uP.dz).2.1 (λe he=>uP.inr e (Hi _ he));obtain⟨F,rfl⟩:∃F,gk=F+1:=⟨gk-1,by omega⟩;rw[GL]at a6;obtain⟨HA2,jj,rfl⟩:=iN kr.hp.own;have oy:=kr.hp.cell;have eZ:=kr.ej.lt;by_cases ar:AU.length=0
    .rw[aP ar]at a6;have QE:¬((0:J)<(AU:J)):=by omega
     have oP:ib.length=d:=by rw[a6];exact tF
     obtain⟨vT,CO,rfl⟩:=iN kr.pz;have hoi:¬((ib:J)<d):=by omega
     have bM:=I (bb kr.pz (bb a6 ax));clear kr uP a6 ax oP;go_wp2_with (go_at_call 90;refine (hlen _ _ _ _).mono ?_;rintro e w2⟨rfl,rfl⟩)
     go_returns;exact ⟨_,rfl,by rw[<-bM.2.1];exact dj.low bM.1 (by rw[<-tH];exact ca.size),ca.trans bM.2.2⟩
    .rw[aw ar]at a6;have QE:(0:J)<(AU:J):=by omega
     obtain⟨al,xt,hhe⟩:=kr.hp.some_ (by omega);rw[hhe]at kr oy;clear hhe;have dU:=I (aj0 U R al xt AU wr kr.hp (by omega) (by omega));have hta:=λ(z:J)(w:ag)=>(by kernel_rfl:(Instr.typeAssert (.iface 3 z) 20 3 true).run prog w= .ok (bj #[z,bR true]) w);have hpm:=(ad1 (l:=AU) (by omega)).mem_iff.2 (o2 ..);have dG:=uP.inr _ (Hi _ hpm);have iq:=uP.step lv T_ (by omega);have asw:=anG AU;have l9:∀k:aa,k<d->0<=dJ ZI k/\dJ ZI k<=1000:=λk ai=>by
      have:=uP.Qd (k:J) (by omega) (by omega);rw[c7]at this;rw[this];refine⟨by omega,?_⟩;have ab:BP ib (b'[k]?.getD [])<=d:=by
       unfold BP;refine fN (nX _ _) ?_;rw[bn (by have:=lv.out;omega),b9];obtain⟨eS,a2⟩:=T_.out _ (vH (show k<b'.length by have:=lv.out;omega));exact AO d _ eS a2
      omega
     obtain⟨ek,rq⟩:∃ek:aa,uc AU=ek:=⟨(uc AU).toNat,by omega⟩;rw[rq]at dU dG iq a6;rw[c7]at iq a6;obtain⟨acN,Nk⟩:=afi lv T_ ek (by omega);have p4:ek<cf.length:=by have:=gO.2.2.1;omega
     have hwl:=uP.wl;have HEH:=I (λ(w2:ag)(hv':ak)(rd':aW)=>kr.heap (w':=w2) (hv':=hv') (rd':=rd'));have bS:=I (bb iq (bb a6 (bb Nk (bb l9 ax))));have HEO:=I kr.hp.own;have acP:(vu b')[ek]?.getD []=fC[ek]'(by rw[<-kr.len];exact p4):=by
      rw[<-HU,bn (by rw[<-kr.len];exact p4)];rfl
     have KY:=I acP;have asV:(fC[ek]'(by rw[<-kr.len];exact p4)).length<=1000:=by
      rw[<-acP];refine fN (AO d _ acN (λu hu=> ?_)) aH;obtain⟨eS,a2⟩:=(Nk u).1 hu;refine⟨eS,?_⟩;rcases rT u.toNat b'.length with h|h
      .have:=lv.out;omega
      .rw[lR h]at a2;cases a2
     have aaq:=I (show fC[ek]?=some (fC[ek]'(by rw[<-kr.len];exact p4))from bn _);generalize fC[ek]'(by rw[<-kr.len];exact p4)=ul at*;obtain⟨ar5,ar6⟩:=dG;have akS:=kr.ej.lt;have hUw:=kr.rO.lt;clear kr iq a6 acN Nk l9 uP ax hpm;go_upto_region 20 with (first|(go_at_call 90;refine (hlen _ _ _ _).mono ?_;rintro e w2⟨rfl,rfl⟩)|(go_at_call 91;refine dU.mono ?_;rintro e w2⟨rfl,bd,a8⟩;have uB:=I (bb (HEH.out w2 _ _ bd a8 (.inl rfl)) a8);clear bd a8))
     have gj:Kept w1 w2:=Two.X' bS.2.2.2.2 uB.2 (by rw[tH];exact uB.1.zf) (λg al=>by rw[tH];exact zp HEO al);have hk:=I gj;have KJ:=I uB.1.pz;have hU2:=uB.1.rO.lt;clear gj;go_upto_region 21 with (at_builtin;refine jB _ rfl (.tmp 77) (.tmp 79) 46 rfl U 3 jq () 1 8 underlying46 fx fy fz fA rfl (by decide) _ ib (ib.map (.int .i64)) rfl (fX KJ _) ⟨w2.heap.size,0,none⟩ 1 1 [ah ek] rfl rfl (n0 _ _ _) (oY ek) (by unfold maxLen;omega) (by omega) (by simp;omega) ?_;intro v6 dc bd a8 _ dk;have Kz:=I (bb ((uB.out.1.alloc (.cells #[ek] 3)).ord (vq bd) a8 dk) (acY (hk.out.alloc (.cells #[ek] 3)) a8 (λg al=>by rw[tH.out];exact zp KJ al)));clear bd a8 dk)
     have IX:=Kz.1;have u6:=IX.rO.cell ek;rw[hL,bn p4]at u6;have ul6:=IX.rO.lt;have ho6:=IX.mM.own _ _ _ (IX.JV p4).1 (IX.aeo aaq);have q7:=I (show cf[ek]?=some cf[ek]from bn p4);generalize akW:cf[ek]=avN at*;obtain⟨gI,eg,rfl⟩:=iN ho6;clear IX ho6 HEH dU akW;obtain⟨FG,Le,hWR⟩:∃FG Le,qU ul ZI (vk AU)=(FG,Le):=⟨_,_,rfl⟩;have HWR:=I hWR;have ago:=I (show FG.length=FG.length from rfl);have acO:h8 d ul:=λu hu=>by
      rw[<-KY]at hu;obtain⟨eS,a2⟩:=(bS.2.2.1 u).1 hu;refine⟨eS,?_⟩;rcases rT u.toNat b'.length with h|h
      .have:=lv.out;omega
      .rw[lR h]at a2;cases a2
     have agw:=I acO;clear hWR acO ago;go_upto_region 22 with fail
     go_loopw [86] (λy wr=>∃(j:aa)(hv':ak)(rd' mE:aW),y=ah j/\j<=ul.length/\h6 wr U U T R cf fC hv' rd' v6 (ib++[(ek:J)]) mE/\mE.length=d/\(∀k:aa,k<d-> -(j:J)<=dJ mE k/\dJ mE k<=1000)/\rd'.length<=d+j/\qU (ul.drop j) mE rd'=(FG,Le)/\Kept w1 wr) (λy _=>ul.length-(intOf y).toNat)
     case atStart=>exact⟨0,_,_,_,rfl,d' _,Kz.1,hwl,λk ai=>by have:=bS.2.2.2.1 k ai;omega,by omega,HWR,Kz.2⟩
     case round=>
      obtain⟨j,hv',rd',mE,rfl,ay,a1,alc,xr,asC,a6,ax⟩:=hrel;by_cases xw:j<ul.length
      .have tV:ul[j]?=some ul[j]:=bn xw;have hD:=agw.out _ (fe tV);have s9:=a1.mM.own _ _ _ (a1.aov q7) (a1.aeo aaq);obtain⟨auY,ri,hv9,akU⟩:=dj.row s9;simp only[i_,tu]at hv9;obtain⟨rfl,rfl⟩:=hv9;obtain⟨avL,rfl,asT,asU,acM⟩:=akU (by omega);have bX:=acM j _ tV;rw[jA xw,qU]at a6;generalize ul[j]=J4 at*;obtain⟨un,rfl⟩:∃un:aa,J4=un:=⟨J4.toNat,by omega⟩;rw[c7]at a6;have tZ:un<mE.length:=by omega
       have t0:=a1.tb.cell un;rw[AI tZ]at t0;have Zn:=a1.tb.frozen un;have SX:=a1.tb.lt;have qQ:=xr un (by omega);have hET:=a1.aeE un (dJ mE un-1);have yg:=I (show∀k:aa,k<d-> -((j+1:aa):J)<=dJ (mE.set un (dJ mE un-1)) k/\dJ (mE.set un (dJ mE un-1)) k<=1000 from λk ai=>by
        have:=xr k ai;by_cases e:un=k
        .subst e;rw[IQ tZ];omega
        .rw[Ma e];omega)
       have hKT:Kept w1 (wr.setCell ⟨T,un,none⟩ (ah (dJ mE un-1))):=ax.setCell (p:=⟨T,un,none⟩) (by rw[tH];exact a1.lt) _;have zP:=I (bb hET hKT);have nC:=I a6;have HWL:=I (show (mE.set un (dJ mE un-1)).length=d by rw[gJ];exact alc);have hg:dJ (mE.set un (dJ mE un-1)) un=dJ mE un-1:=IQ tZ _;have lW:=I hg;have hH:(j:J)<ul.length:=by omega
       have asW:(un:J)<d:=by omega
       clear s9 tV xr a6 hET hKT a1 ax acM hg;go_upto_region 25 with fail
       generalize hw8:wr.setCell ⟨T,un,none⟩ (ah (dJ mE un-1))=xW at*;clear hw8 t0 Zn SX bX;have t1:=zP.1.tb.cell un;rw[AI (by rw[gJ];exact tZ),lW]at t1;have t1l:=zP.1.tb.lt;generalize mE.set un (dJ mE un-1)=wt9 at*;have HGI:=I (show dJ mE un=dJ mE un from rfl);clear HGI;by_cases bP:dJ mE un-1=0
       .have Uu:=I (show qU (ul.drop (j+1)) wt9 (zt rd' un)=(FG,Le) by have:=nC.out;rwa [aP bP]at this);have dU:=I (acg U R hv' rd' un xW zP.1.hp (by omega) (by have:=zP.1.rO.lt;omega));have arb:=yg;have nO:dJ mE un=1:=by omega
        rw[nO]at t1;clear bP nC lW;go_wp2_with (go_at_call 89;refine dU.mono ?_;rintro e mb⟨rfl,v9,bd,a8,dI⟩;have q4:=I (bb bd (bb a8 dI));clear bd a8 dI)
        obtain⟨bd,a8,dI⟩:=q4.out;have HE9:=I (zP.1.heap bd a8 dI);have k':=I (Two.X' zP.2 a8 (by rw[tH];exact zP.1.zf) (λg al=>by rw[tH];exact zp zP.1.hp.own al));clear bd a8 dI;go_roundw
        case rel=>exact⟨j+1,_,_,_,by go_num,xw,HE9,HWL,yg,by rw[ad6];omega,Uu,k'⟩
        case measure=>simp[intOf];omega
       .have Uu:=I (show qU (ul.drop (j+1)) wt9 rd'=(FG,Le) by have:=nC.out;rwa [aw bP]at this);clear nC lW;go_wp2_with fail
        go_roundw
        case rel=>exact⟨j+1,_,_,_,by go_num,xw,zP.1,HWL,yg,by omega,Uu,zP.2⟩
        case measure=>simp[intOf];omega
      .obtain rfl:j=ul.length:=by omega
       have hH:¬((ul:J)<ul.length):=by omega
       rw[E4,qU]at a6;simp only[q1]at a6;obtain⟨rfl,rfl⟩:=a6;have bM:=I (bb a1 ax);have dH:=bS.1;have RE:=bS.2.1;rw[KY,HWR]at dH RE;have vM:=I (bb dH RE);clear a1 ax dH RE;go_wp2_with fail
       go_roundg F
       case measure=>omega
       case rel=>exact⟨_,_,_,_,bM.1,vM.1,by rw[fk,sy];omega,vM.2,bM.2⟩
def alN(aM src:ez)(bx bJ d_ cZ cT d dt:J)(mN qc:gu)(oL gc dR eT ee fm:aa)(g v:List cw)(w:ag)(aR:ee<w)(bw:fm<w)(b4:aU w (ee,0)=some (ah d))(b_:aU w (fm,0)=some (ah dt)):
  bg 126 #[aF #[aM,bx,bJ,d_,cZ,cT,ae mN oL gc,ae qc dR eT,src],.pointer (some (ee,0)),.pointer (some (fm,0))] w
   λe w'=>e=bL (bR (bz d dt ⟨aM,bx,bJ,d_,cZ,cT,g,v,src⟩))/\Kept w w':=by
 have ct:=I (λw1=>Vq cZ cT dt w1);have ai:bz d dt ⟨aM,bx,bJ,d_,cZ,cT,g,v,src⟩=(decide (bx=d)&&Ai cZ cT dt):=rfl;rw[ai];clear ai;have bo:=aB.new w 138 #[aM,bx,bJ,d_,cZ,cT,ae mN oL gc,ae qc dR eT,src];have aV:Kept w (w.alloc (.cells #[aM,bx,bJ,d_,cZ,cT,ae mN oL gc,ae qc dR eT,src] 138)):=(aG _).aZ;have ck:=aV.aI aR b4;have cy:=aV.aI bw b_;by_cases aE:bx=d
 .subst aE;rw[jR rfl,Kf];generalize Ai cZ cT dt=DO at*;go_enter func126,ntmps126
  go_upto_region 1 with fail
  generalize w.alloc (.cells #[aM,bx,bJ,d_,cZ,cT,ae mN oL gc,ae qc dR eT,src] 138)=W at*;obtain⟨dX,cR⟩:=bo.p;go_wp2_with (go_at_call 127;refine (ct _).mono ?_;rintro y w1⟨rfl,au⟩)
  go_ret;exact⟨rfl,aV.trans au⟩
 .rw[jC aE,Bool.false_and];have tU:(bx==d)=false:=by simpa using aE
  go_enter func126,ntmps126
  go_upto_region 1 with fail
  generalize w.alloc (.cells #[aM,bx,bJ,d_,cZ,cT,ae mN oL gc,ae qc dR eT,src] 138)=W at*;obtain⟨dX,cR⟩:=bo.p;go_wp2_with fail
  go_ret;exact⟨rfl,aV⟩
structure n3(w:ag)(B N:aa)(cm fZ:ak)(gF:aW)(l:List aa)(p:aW)(i n:aa):Prop where
 nb:aB w N 3 (va (gF++List.replicate (n-i) 0))
 mM:ye w B [N] [cm,fZ] [cC l,p]
 nl:gF.length=i
 El:B<=N
section
variable {w w':ag} {B N:aa} {cm fZ:ak} {gF:aW} {l:List aa} {p:aW} {i n:aa}
def n3.keep(h:n3 w B N cm fZ gF l p i n)(ai:Kept w w'):n3 w' B N cm fZ gF l p i n:=⟨h.nb.kept ai,h.mM.keep ai,h.nl,h.El⟩
def n3.ol(h:n3 w B N cm fZ gF l p i n):dj w B cm (cC l):=h.mM.own 0 _ _ rfl rfl
def n3.op(h:n3 w B N cm fZ gF l p i n):dj w B fZ p:=h.mM.own 1 _ _ rfl rfl
def n3.put(h:n3 w B N cm fZ gF l p i n)(aD:i<n)(x:J):n3 (w.setCell (N,i) x) B N cm fZ (gF++[x]) l p (i+1) n:=by
 refine⟨?_,h.mM.SQ (by simp) i _,by rw[fk,h.nl];rfl,h.El⟩;have ab:=h.nb.ba i x;rw[Jt,A' _ _ (by rw[h.nl];exact bB _),h.nl,k7,show n-i=(n-(i+1))+1 by omega,J',lS]at ab;rw[nY];exact ab
def n3.U6{CI:ak}{x:aa}(h:n3 w B N cm fZ gF l p i n)(ab:dj w' B CI (cC l++[(x:J)]))(ad:w.grownBy w' cm.ownBlock)(ao:CI.ownBlock=cm.ownBlock\/CI.ownBlock=some w.heap.size):n3 w' B N CI fZ gF (l++[x]) p i n:=by
 have bV:=h.mM.far 0 _ rfl N (by simp);have:=h.mM.two (d:=0) rfl ab (Two.AQ (r:=N) ad) (by simp) (ao.imp id λe=>⟨_,e,bB _⟩);exact⟨(ad.block N h.nb.lt (λe=>bV e.symm)).trans h.nb,by rw[Yx];exact this,h.nl,h.El⟩
def n3.U7{SC:ak}{x:J}(h:n3 w B N cm fZ gF l p i n)(ab:dj w' B SC (p++[x]))(ad:w.grownBy w' fZ.ownBlock)(ao:SC.ownBlock=fZ.ownBlock\/SC.ownBlock=some w.heap.size):n3 w' B N cm SC gF l (p++[x]) i n:=by
 have bV:=h.mM.far 1 _ rfl N (by simp);have:=h.mM.two (d:=1) rfl ab (Two.AQ (r:=N) ad) (by simp) (ao.imp id λe=>⟨_,e,bB _⟩);exact⟨(ad.block N h.nb.lt (λe=>bV e.symm)).trans h.nb,this,h.nl,h.El⟩
def n3.an3{y:J}(h:n3 w B N cm fZ (gF++[y]) l p (i+1) n)(x:J):n3 (w.setCell (N,i) x) B N cm fZ (gF++[x]) l p (i+1) n:=by
 have av:gF.length=i:=by have:=h.nl;rw[fk]at this;simpa using this
 refine⟨?_,h.mM.SQ (by simp) i _,by rw[fk,av];rfl,h.El⟩;have ab:=h.nb.ba i x;rw[Jt,nY,A' _ _ (by rw[av];exact bB _),av,k7]at ab;rw[nY];exact ab
def n3.amV(h:n3 w B N cm fZ gF l p i n){k:aa}(ai:k<i):aU w (N,k)=some (ah (gF[k]?.getD 0)):=by
 rw[h.nb.cell,AI (by rw[fk,h.nl];omega)];unfold dJ;rw[lQ (by rw[h.nl];exact ai)]
end
def an1(l:List aa)(p:aW)(w:ag)(e:Ending)(w':ag):Prop:=∃cm fZ,e=bL (bj #[cm,fZ])/\gw w' cm (cC l)/\gw w' fZ p/\Kept w w'
def Lx(r:br)(gF:aW):J:=if 0<=r.bJ/\r.bJ<gF.length then gF[r.bJ.toNat]?.getD 0 else -1
def an0{kp:br->Bool}{r:br}{rs:List br}{gF:aW}{l:List aa}{p:aW}(h:kp r=true):ss kp (r::rs) gF l p=ss kp rs (gF++[(l:J)]) (l++[gF.length]) (p++[Lx r gF]):=by
 rw[ss,aP h];rfl
def anY{kp:br->Bool}{r:br}{rs:List br}{gF:aW}{l:List aa}{p:aW}(h:kp r=false):ss kp (r::rs) gF l p=ss kp rs (gF++[Lx r gF]) l p:=by
 rw[ss,aw (by rw[h];simp)];rfl
def an2(cD:ak)(rs:List br)(ee fm:aa)(d dt:J)(w:ag)(l5:c0 9 lz w cD rs)(aH:rs.length<=1000)(aR:ee<w)(bw:fm<w)(b4:w.cell? (ee,0)=some (.int .i64 d))(b_:w.cell? (fm,0)=some (.int .i64 dt)):
  Calls prog 125 #[cD,.func (.func 126) #[] #[.pointer (some (ee,0)),.pointer (some (fm,0))]] w (an1 (b8 (bz d dt) rs).1 (b8 (bz d dt) rs).2 w):=by
 obtain⟨jq,fx,fy,fz,fA⟩:=hy Tryz.td;obtain⟨eR,rc,rfl,-,-,lI⟩:=l5;have pO:=I lI;have HKP:=I (λ(w1:ag)(ai:Kept w w1)(aM src:ez)(bx bJ d_ cZ cT:J)(mN qc:gu)(oL gc dR eT:aa)(g v:List cw)=>alN aM src bx bJ d_ cZ cT d dt mN qc oL gc dR eT ee fm g v w1 (bG aR ai.size) (bG bw ai.size) (ai.aI aR b4) (ai.aI bw b_));obtain⟨LT,H9,I3⟩:∃LT H9,b8 (bz d dt) rs=(LT,H9):=⟨_,_,rfl⟩;rw[I3];have Dq:=I (show ss (bz d dt) (rs.drop 0) [] [] []=(LT,H9)from I3);generalize bz d dt=kp at*;obtain⟨n,l9⟩:∃n,rs.length=n:=⟨_,rfl⟩;rw[l9]at aH pO⊢;have b3:=I l9;have ry:(n:J)<=1000:=by omega
 clear lI I3 l9 aR bw b4 b_;go_enter func125,ntmps125
 go_upto_region 3 with (at_make;refine rR _ rfl _ _ 46 rfl w 3 jq () 1 underlying46 fx fy fz _ _ _ _ n rfl rfl rfl rfl (by rw[fA];omega) (by unfold maxLen;omega) (bB _) ?_;intro w1 cN cu;have cB:=I (R9 cN cu);clear cN cu)
 have Fe:n3 w1 w w bf bf [] [] [] 0 n:=⟨by rw[qj,Nat.sub_zero];exact cB.1,⟨rfl,λd u l hu av=>(by
  match d,hu,av with
  |0,hu,av=>cases hu;cases av;exact qh _ _ _ _
  |1,hu,av=>cases hu;cases av;exact qh _ _ _ _),λd fp u lO _ hu _=>(by
  match d,hu with
  |0,hu=>cases hu;exact kP.Sh _
  |1,hu=>cases hu;exact kP.Sh _),λd u hu x _=>(by
  match d,hu with
  |0,hu=>cases hu;intro h;cases h
  |1,hu=>cases hu;intro h;cases h),λx aj=>(by rw[kb]at aj;subst aj;exact cB.1.lt)⟩,rfl,bB _⟩
 have uC:=I (bb Fe cB.out.2);clear cB Fe;go_upto_region 4 with fail
 go_loopw [6,7,17] (λcm fZ y wr=>∃(i:aa)(gF:aW)(l:List aa)(p:aW),y= .int .i64 i/\i<=n/\n3 wr w w cm fZ gF l p i n/\l.length<=i/\p.length<=i/\ss kp (rs.drop i) gF l p=(LT,H9)/\Kept w wr) (λ_ _ y _=>n-(intOf y).toNat)
 case atStart=>exact⟨0,[],[],[],rfl,d' _,uC.1,bB _,bB _,Dq,uC.2⟩
 case round=>
  obtain⟨i,gF,l,p,rfl,dG,hF,uV,nK,a6,ax⟩:=hrel;by_cases aN:i<n
  .obtain⟨ej,ro,rfl,gq,kH⟩:=pO.out (by omega);have fB:i<rs.length:=by have:=b3.out;omega
   have al:rs[i]?=some (rs[i]'fB):=bn _;obtain⟨⟨cK,-⟩,⟨aY,-⟩,⟨a',-⟩,⟨bu,-⟩,⟨b4,-⟩,⟨b_,-⟩,⟨sY,dn,oo⟩,⟨tr,mr,AF⟩,⟨hV,-⟩⟩:=kH i _ al;rw[jA fB]at a6;generalize rs[i]'fB=r at*;obtain⟨gC,gc,rfl,-⟩:=oo.1.at_;obtain⟨gx,eT,rfl,-⟩:=AF.1.at_;unfold g' at cK aY a' bu b4 b_ dn mr hV;have jF:=ax.aI gq cK;have gN:=ax.aI gq aY;have df:=ax.aI gq a';have ev:=ax.aI gq bu;have tx:=ax.aI gq b4;have Kp:=ax.aI gq b_;have Dh:=ax.aI gq dn;have yb:=ax.aI gq mr;have rU:=ax.aI gq hV;have acE:=bG gq ax.size;have db:(i:J)<n:=by omega
   obtain⟨an,MG⟩:∃an,Lx r gF=an:=⟨_,rfl⟩;have o8:=I (show∀w1,Kept w w1->Calls prog 126 #[.agg #[r.aM,r.bx,r.bJ,r.d_,r.cZ,r.cT,.slice gC r.g gc,.slice gx r.v eT,r.src],.pointer (some (ee,0)),.pointer (some (fm,0))] w1 (λe w'=>e= .returned (.bool (kp r))/\Kept w1 w')from λw1 ai=>HKP w1 ai r.aM r.src r.bx r.bJ r.d_ r.cZ r.cT gC gx r.g gc r.v eT r.g r.v);have q8:=I (show kp r=true->ss kp (rs.drop (i+1)) (gF++[(l.length:J)]) (l++[i]) (p++[an])=(LT,H9)from λh=>by rw[<-a6,an0 h,MG,hF.nl]);have HNo:=I (show kp r=false->ss kp (rs.drop (i+1)) (gF++[an]) l p=(LT,H9)from λh=>by rw[<-a6,anY h,MG]);have HAN:=I MG;have bM:=I hF;have cp:=I ax;have dB:=I (bb uV nK);clear cK aY a' bu b4 b_ dn mr hV oo AF kH al a6 hF ax MG;go_upto_region 7 with fail
   generalize aL:wr.alloc _=ha at*;obtain⟨c3,bm⟩:=Kept.aQ aL;clear aL;obtain⟨dQ,b5⟩:=bm.p;have vM:=I (bM.keep c3);have hk:=I (cp.trans c3);have eA:=I bm;have ass:=vM.nb.lt;clear jF gN df ev tx Kp Dh yb rU bm c3;go_cut [30] (λbv cj=>bv= .bool (decide (0<=r.bJ/\r.bJ<i))/\cj=ha)
   case first=>
    by_cases xz:0<=r.bJ
    .by_cases we:r.bJ<i
     .have aE:=jR (bb xz we);go_wp2_with fail
      go_meet
      case rel=>exact⟨by rw[aE],rfl⟩
     .have aE:=jC (λh:0<=r.bJ/\r.bJ<i=>we h.2);have Rw:(i:J)<=r.bJ:=by omega
      go_wp2_with fail
      go_meet
      case rel=>exact⟨by rw[aE],rfl⟩
    .have aE:=jC (λh:0<=r.bJ/\r.bJ<i=>xz h.1);have Rw:r.bJ<0:=by omega
     go_wp2_with fail
     go_meet
     case rel=>exact⟨by rw[aE],rfl⟩
   case rest=>
    obtain⟨rfl,rfl⟩:=hcut;go_upto_if 30 with fail
    go_cut [11] (λdF cj=>dF= .int .i64 an/\cj=wc)
    case first=>
     by_cases hp:0<=r.bJ/\r.bJ<i
     .obtain⟨N0,Nf⟩:∃N0:aa,r.bJ=N0:=⟨r.bJ.toNat,by omega⟩;have kI:=vM.amV (k:=N0) (by omega);have he:gF[N0]?.getD 0=an:=by
       rw[<-HAN];unfold Lx;rw[aP ⟨hp.1,by rw[bM.nl];exact hp.2⟩,Nf,c7]
      rw[he]at kI;rw[jR hp];rw[Nf]at dQ hp;have asv:(N0:J)<n:=by omega
      clear hp;go_wp2_with fail
      go_meet
      case rel=>exact⟨rfl,rfl⟩
     .have he:an= -1:=by
       rw[<-HAN];unfold Lx;rw[aw (λh=>hp (by have:=h.2;rw[bM.nl]at this;exact⟨h.1,this⟩))]
      rw[jC hp];clear hp;go_wp2_with fail
      go_meet
      case rel=>exact⟨by rw[he],rfl⟩
    case rest=>
     obtain⟨rfl,hww⟩:=hcut;subst hww;have e9:=vM.nb.cell i;rw[AI (by rw[fk,vM.nl,iQ];omega)]at e9;have n1f:=vM.nb.frozen i;go_upto_region 10 with fail
     have atk:=vM.put aN an;have cP:=eA.far (p:=⟨w.heap.size,i,none⟩) (Nat.ne_of_gt bM.nb.lt) (.int .i64 an);have eO:=hk.setCell (p:=⟨w.heap.size,i,none⟩) (bB _) (.int .i64 an);clear e9 n1f dQ;generalize wc.setCell ⟨w.heap.size,i,none⟩ (.int .i64 an)=ch at*;obtain⟨fP,dW⟩:=cP.p;have O5:=I (o8 ch eO);have pJ:=I (bb atk eO);clear atk cP eO
     cases Jd:kp r
     .rw[Jd]at O5;have tD:=I (HNo Jd);clear Jd;go_wp2_with (go_at_call 126;refine O5.mono ?_;rintro e eK⟨rfl,ck⟩;have eB:=I ck;clear ck)
      go_roundw
      case rel=>exact⟨i+1,_,_,_,by go_num,aN,pJ.1.keep eB,by have:=dB.1;omega,by have:=dB.2;omega,tD,pJ.2.trans eB⟩
      case measure=>simp[intOf];omega
     .rw[Jd]at O5;have tD:=I (q8 Jd);clear Jd;obtain⟨auC,lc,hlv⟩:=iN pJ.1.ol;subst hlv;have asd:=(show l.length<=1000 by have:=dB.1;omega);have asu:=(show p.length<=1000 by have:=dB.2;omega);rw[oW];go_upto_region 11 with (go_at_call 126;refine O5.mono ?_;rintro e eK⟨rfl,ck⟩;have eB:=I ck;clear ck)
      have Hv:=pJ.1.keep eB;have wz:=Hv.nb.cell i;rw[AI (by rw[fk,Hv.nl,iQ];omega)]at wz;have n4f:=Hv.nb.frozen i;have n4l:=Hv.nb.lt;have iR:=I (bb Hv (pJ.out.2.trans eB.out));clear Hv fP;go_upto_region 12 with fail
      have atl:=iR.1.an3 (l.length:J);have mJ:=iR.2.setCell (p:=⟨w.heap.size,i,none⟩) (bB _) (.int .i64 (l.length:J));clear wz n4f n4l;generalize eK.setCell ⟨w.heap.size,i,none⟩ (.int .i64 (l.length:J))=c4 at*;have pK:=I (bb atl mJ);clear atl mJ;go_upto_region 13 with (at_builtin;refine jB _ rfl (.tmp 48) (.tmp 50) 46 rfl w 3 jq () 1 8 underlying46 fx fy fz fA rfl (by decide) _ (cC l).length ((cC l).map (.int .i64)) (by simp[Act.eval,oW]) (fX pK.1.ol _) ⟨c4.heap.size,0,none⟩ 1 1 [.int .i64 i] rfl rfl (n0 _ _ _) (oY i) (by rw[oW];unfold maxLen;omega) (by rw[oW];omega) (by have:=pK.2.size;simp;omega) ?_;intro v6 dc bd a8 _ dk;have gm:=I (bb ((pK.out.1.keep (Kept.alloc (aG _) (.cells #[i] 3))).U6 (vq bd) a8 dk) (ll (pK.out.2.alloc (.cells #[i] 3)) (fX pK.out.1.ol _) (bB _) a8));clear bd a8 dk)
      go_upto_region 14 with (at_builtin;refine jB _ rfl (.tmp 52) (.tmp 54) 46 rfl w 3 jq () 1 8 underlying46 fx fy fz fA rfl (by decide) _ p (p.map (.int .i64)) rfl (fX gm.1.op _) ⟨dc.heap.size,0,none⟩ 1 1 [.int .i64 an] rfl rfl (n0 _ _ _) (oY an) (by unfold maxLen;omega) (by omega) (by have:=gm.2.size;simp;omega) ?_;intro xU lP bd a8 _ dk;have sE:=I (bb ((gm.out.1.keep (Kept.alloc (aG _) (.cells #[.int .i64 an] 3))).U7 (vq bd) a8 dk) (ll (gm.out.2.alloc (.cells #[.int .i64 an] 3)) (fX gm.out.1.op _) (bB _) a8));clear bd a8 dk)
      go_wp2_with fail
      go_roundw
      case rel=>exact⟨i+1,_,_,_,by go_num,aN,sE.1,by rw[fk,sy];have:=dB.1;omega,by rw[fk,sy];have:=dB.2;omega,tD,sE.2⟩
      case measure=>simp[intOf];omega
  .obtain rfl:i=n:=by omega
   have db:¬((i:J)<i):=by omega
   rw[vD (by have:=b3.out;omega),ss]at a6;simp only[q1]at a6;obtain⟨rfl,rfl⟩:=a6;have bM:=I (bb hF.ol.reads (bb hF.op.reads ax));clear hF ax;go_wp2_with fail
   go_returns;exact ⟨_,_,rfl,bM.1,bM.2.1,bM.2.2⟩
def apY(l:List aa)(p q:aW)(w:ag)(e:Ending)(w':ag):Prop:=∃cm fZ m_,e=bL (bj #[cm,fZ,m_])/\gw w' cm (cC l)/\gw w' fZ p/\gw w' m_ q/\Kept w w'
def anH{rs:List br}{l:List aa}{j k:aa}{r:br}(h:l[j]?=some k)(aC:rs[k]?=some r):gG rs (l.take (j+1))=gG rs (l.take j)++[r.d_]:=by
 unfold gG;rw[qZ,h,k6];simp[aC]
def apX(v:ak)(x:cq)(d dt:J)(w:ag)(bH:nF w v x)(aH:x.rs.length<=1000):
  bg 92 #[v,d,dt] w (apY (b8 (bz d dt) x.rs).1 (b8 (bz d dt) x.rs).2 (gG x.rs (b8 (bz d dt) x.rs).1) w):=by
 obtain⟨jq,fx,fy,fz,fA⟩:=hy Tryz.td;obtain⟨b7,dy,cD,rfl,b6,cY,l5⟩:=bH;have zY:=I (λ(w1:ag)(ee fm:aa)(ai:Kept w w1)=>an2 cD x.rs ee fm d dt w1 (l5.kept lz.kept ai) aH);obtain⟨jf,jo,rfl,-⟩:=b6;obtain⟨hT,ij,rfl,-⟩:=cY;obtain⟨eR,rc,rfl,-,-,lI⟩:=l5;have pO:=I lI;have ym:=I (λk i h=>((tm (bz d dt) x.rs).sq k i h).1);have kg:=I (show (b8 (bz d dt) x.rs).1.length<=x.rs.length by
  rw[(tm (bz d dt) x.rs).mX];unfold hB;refine fN (nX _ _) ?_;rw[gT];omega)
 generalize (b8 (bz d dt) x.rs).1=L at*;generalize (b8 (bz d dt) x.rs).2=P at*;generalize x.ins.length=AN at*;generalize x.ds.length=dz at*;generalize x.rs=rs at*;obtain⟨n,l9⟩:∃n,rs.length=n:=⟨_,rfl⟩;rw[l9]at aH pO kg ym⊢;have b3:=I l9;rw[l9]at zY;clear lI l9;have ry:(n:J)<=1000:=by omega
 go_enter func92,ntmps92
 go_upto_region 1 with fail
 generalize aL:((w.alloc _).alloc _).alloc _=W at*;obtain⟨aV,bo,bh,bm⟩:=Kept.cv aL;clear aL;have dX:=bo.cell 4;have cR:=bo.lt;simp only[hL,iP,jd]at dX;have n5:=I (zY W (w.heap.size+1) (w.heap.size+1+1) aV bh.lt bm.lt (bh.cell 0) (bm.cell 0));go_upto_region 3 with (go_at_call 125;refine n5.mono ?_;rintro e w1⟨cm,fZ,rfl,bd,a8,dI⟩;obtain⟨at7,lc,rfl,M9⟩:=gw.at_ bd;have b1:=I (bb bd (bb a8 (bb dI M9)));clear bd a8 dI M9)
 rw[oW];have cP:=bo.kept b1.2.2.1;have ca:=aV.trans b1.2.2.1;have Fo:=I b1.2.2.2;rw[oW]at Fo;have HPV:=I (bb b1.out.1 b1.out.2.1);clear zY n5 b1 dX cR bo bh bm;go_upto_region 4 with fail
 have asc:=kg.out;go_loopw [11,23] (λa y wr=>∃j:aa,y=ah j/\j<=L.length/\Kept w1 wr/\dj wr w1 a (gG rs (L.take j))) (λ_ y _=>L.length-(intOf y).toNat)
 case atStart=>exact⟨0,rfl,d' _,aG _,qh _ _ _ _⟩
 case round=>
  obtain⟨j,rfl,ay,ax,dZ⟩:=hrel;by_cases aN:j<L.length
  .obtain⟨Yf,e2,rfl,rr,Ed⟩:=Fo.out (by omega);have al:L[j]?=some L[j]:=bn aN;have l8:=ym.out j _ al;have cK:=Ed j _ (Sd al);obtain⟨ej,ro,rfl,gq,kH⟩:=pO.out (by omega);have fu:L[j]<rs.length:=by have:=b3.out;omega
   have jl:rs[L[j]]?=some rs[L[j]]:=bn fu;obtain⟨-,-,-,⟨bu,-⟩,-⟩:=kH _ _ jl;have hpt:=anH al jl;have nK:(gG rs (L.take j)).length<=1000:=by unfold gG;rw[er,gT];omega
   generalize rs[L[j]]=r at*;generalize L[j]=k at*;unfold g' at bu;have jF:=ax.aI rr cK;have aS:=ca.trans ax;have ev:=aS.aI gq bu;have ar9:=bG rr ax.size;have asB:=bG gq aS.size;have fH:=cP.kept ax;have kW:=fH.cell 4;have gz:=fH.lt;simp only[hL,iP,jd]at kW;have hH:(j:J)<L.length:=by omega
   have lF:(k:J)<n:=by omega
   have eG:=I dZ;have cp:=I ax;have HPT:=I hpt;have nN:=ax.size;clear dZ ax hpt Ed kH cK bu al jl aS fH;go_wp2_with (at_builtin;refine jB _ rfl (.tmp 27) (.tmp 34) 46 rfl w1 3 jq () 1 8 underlying46 fx fy fz fA rfl (by decide) _ (gG rs (L.take j)).length ((gG rs (L.take j)).map (.int .i64)) rfl (fX eG _) ⟨wr.heap.size,0,none⟩ 1 1 [ah r.d_] rfl rfl (n0 _ _ _) (oY r.d_) (by unfold maxLen;omega) (by omega) (by simp;omega) ?_;intro v6 dc bd a8 _ dk;have gm:=I (bb (vq bd) a8);clear bd a8 dk)
   have bM:=I (bb (ll (cp.out.alloc _) (fX eG.out _) (bB _) gm.out.2) (show dj dc w1 v6 (gG rs (L.take (j+1))) by rw[HPT.out];exact gm.1));go_roundw
   case rel=>exact⟨j+1,by go_num,aN,bM.1,bM.2⟩
   case measure=>simp[intOf];omega
  .obtain rfl:j=L.length:=by omega
   have hH:¬((L.length:J)<L.length):=by omega
   rw[x3]at dZ;have bM:=I (bb (HPV.out.1.kept ax) (bb (HPV.out.2.kept ax) (bb dZ.reads (ca.trans ax))));rw[oW]at bM;clear dZ ax;go_wp2_with fail
   go_ret3
   exact⟨_,_,_,rfl,bM.1,bM.2.1,bM.2.2.1,bM.2.2.2⟩
def blF(b:Bool):dN:=[bR b]
abbrev E9(w:ag)(v:ak)(l:List Bool):Prop:=hP w blF 1 v l
def E9.at_{w:ag}{v:ak}{l:List Bool}(h:E9 w v l):∃A cap,v=ae A l cap/\(0<l.length->∃b off,A=some ⟨b,off,none⟩/\b<w.heap.size/\∀j x,l[j]?=some x->aU w ⟨b,off+j,none⟩=some (bR x)):=by
 obtain⟨A,cap,aK,aj⟩:=h;refine⟨A,cap,aK,λhp=> ?_⟩;obtain⟨b,off,a7,af,aq⟩:=aj hp;exact⟨b,off,a7,af,λj x ay=>by have:=aq j x ay 0 (bR x) rfl;rwa [jD,lT]at this⟩
def hF(l:List Bool)(i:aa):Bool:=l[i]?.getD false
def ant{par:aW}{pri:aa->J}{apl:aa->Bool}(hp:∀(i:aa)(p:J),par[i]?=some p->p<i){i:aa}(aD:i<par.length):
  eu par pri apl par i=if nu (eu par pri apl par) (jI pri (eu par pri apl par) (gb par i))= -1/\apl i=true then (i:J)else nu (eu par pri apl par) (jI pri (eu par pri apl par) (gb par i)):=by
 rcases adV par pri apl hp par i (by omega)with h|h
 .rw[h,eu]
 .omega
def anq(l:aW)(w:ag)(e:Ending)(w':ag):Prop:=∃u,e=bL u/\gw w' u l/\Kept w w'
def XY{w:ag}{g:aa}{l:aW}(h:aB w g 3 (va l)):gw w (.slice (some (g,0)) l l) l:=by
 refine⟨_,_,rfl,λ_=>⟨g,0,rfl,h.lt,λj x ay i u aD=> ?_⟩⟩;have qL:=(b2 ay).1;match i,aD with
 |0,aD=>
  cases aD;rw[h.cell,ql,jD,lT,AI qL];unfold dJ;rw[ay];rfl
def abW(l:aW):dJ l=gW l:=rfl
def anu(fZ m_ dF:ak)(par pri:aW)(apl:List Bool)(w:ag)(eJ:gw w fZ par)(cL:gw w m_ pri)(a7:E9 w dF apl)(av:par.length<=1000)(az:pri.length=par.length)(bD:apl.length=par.length)(hp:∀(i:aa)(p:J),par[i]?=some p->p<i):
  bg 129 #[fZ,m_,dF] w (anq ((List.range par).map (eu par (gW pri) (hF apl) par)) w):=by
 obtain⟨jq,fx,fy,fz,fA⟩:=hy Tryz.td;have HOC:=I (λ(w1:ag)(gr:ak)(o:aW)(p:J)(ai:Kept w w1)(aA:o.length=par.length)(si:gw w1 gr o)=>adE (aF #[fZ,m_,gr]) par pri o p w1 ⟨fZ,m_,gr,rfl,eJ.kept ai,cL.kept ai,si⟩ av az aA);obtain⟨xb,vj,rfl,-⟩:=eJ.at_;obtain⟨uG,nx,rfl,-⟩:=cL.at_;obtain⟨Tz,ac,rfl,MH⟩:=a7.at_;have HAX:=I (λi(aD:i<par.length)=>by
  obtain⟨b,off,ab,ad,ao⟩:=MH (by omega);exact (⟨b,off,ab,ad,ao i _ (by unfold hF;rw[bn (by omega)];rfl)⟩:∃b off,Tz=some ⟨b,off,none⟩/\b<w.heap.size/\aU w ⟨b,off+i,none⟩=some (bR (hF apl i))))
 have aau:=I (λi(aD:i<par.length)=>ant (pri:=gW pri) (apl:=hF apl) hp aD);have afX:=I (λ(p:J)c(h:c∈gb par p)=>(r8.1 h:par[c]?=some p));have wY:=I hp;rw[az,bD]at*;obtain⟨n,aH⟩:∃n,par.length=n:=⟨_,rfl⟩;rw[aH]at av HOC HAX aau⊢;have b3:=I aH;clear aH MH eJ cL a7 az bD hp;generalize gW pri=l3 at*;generalize hF apl=atG at*;generalize eu par l3 atG n=os at*;have ry:(n:J)<=1000:=by omega
 go_enter func129,ntmps129
 go_upto_region 2 with (at_make;refine rR _ rfl _ _ 46 rfl w 3 jq () 1 underlying46 fx fy fz _ _ _ _ n rfl rfl rfl rfl (by rw[fA];omega) (by unfold maxLen;omega) (bB _) ?_;intro w1 cN cu;have cB:=I (R9 cN cu);clear cN cu)
 have bo:=cB.1.alloc (.cells #[ae xb n vj,ae uG n nx,ae (some (w,0)) n n] 245);have Ig:=aB.new w1 245 #[ae xb n vj,ae uG n nx,ae (some (w,0)) n n];have aV:Kept w (w1.alloc (.cells #[ae xb n vj,ae uG n nx,ae (some (w,0)) n n] 245)):=cB.2.alloc _;have hGS:w<w1.heap.size:=cB.1.lt;clear cB;generalize w1.alloc (.cells #[ae xb n vj,ae uG n nx,ae (some (w,0)) n n] 245)=W at*;go_upto_region 3 with fail
 generalize w1.heap.size=Bx at*;have hN:=I hGS;go_loopw [8] (λy wr=>∃(i:J)(o:aW),y=ah i/\ -1<=i/\i<n/\aB wr w 3 (va o)/\aB wr Bx 245 #[ae xb n vj,ae uG n nx,ae (some (w,0)) n n]/\o.length=n/\(∀c:aa,i<c->c<n->gW o c=os c)/\Kept w wr) (λy _=>(intOf y+1).toNat)
 case atStart=>exact⟨(n:J)-1,_,rfl,by omega,by omega,bo,Ig,iQ ..,λc ab ad=>by omega,aV⟩
 case round=>
  obtain⟨i,o,rfl,MX,W1,bc,bH,oP,Ee,ax⟩:=hrel;by_cases ar:0<=i
  .obtain⟨k,rfl⟩:∃k:aa,i=k:=⟨i.toNat,by omega⟩;have l8:k<n:=by omega
   obtain⟨Z,lE⟩:∃Z,nu (gW o) (jI l3 (gW o) (gb par (k:J)))=Z:=⟨_,rfl⟩;have sH:=I (λx:aS wr=>(by
    have ab:=HOC.out x.W _ o (k:J) (ax.trans x.h) oP (XY (bc.kept x.h));rw[lE,oP]at ab;exact ab:bg 130 #[aF #[ae xb n vj,ae uG n nx,ae (some (w,0)) n n],k] x.W (Tx Z x.W)))
   have hZ2:Z=nu os (jI l3 os (gb par (k:J))):=by
    rw[<-lE];refine aeA λc aq=> ?_;have ab:=afX.out _ c aq;have ad:=wY.out c _ ab;have ao:=(b2 ab).1;exact Ee c (by omega) (by have:=b3.out;omega)
   have kC:=I (aau k l8);rw[<-hZ2]at kC;have wX:=I (show∀V,os k=V->∀c:aa,(k:J)-1<c->c<n->gW (o.set k V) c=os c from λV c6 c ab ad=>by
    by_cases e:k=c
    .subst e;rw[<-abW,IQ (by rw[oP];exact l8)];exact c6.symm
    .rw[<-abW,Ma e];exact Ee c (by omega) ad)
   have ie:=aS.cell bH.lt (bH.cell 0);have s1:=aS.cell bH.lt (bH.cell 1);have s2:=aS.cell bH.lt (bH.cell 2);have tn:=bH.lt
   try simp only[hL,iP,jd]at ie s1 s2
   have dv:=I bc;have eb:=I bH;have cp:=I ax;have tF:=I oP;have lF:(k:J)<n:=by omega
   obtain⟨yB,aum,rfl,pg,ph⟩:=HAX.out k l8;clear bc bH ax oP lE hZ2 Ee;go_upto_region 5 with fail
   refine wH 7 (by kernel_rfl) (by kernel_rfl) ?_;simp only[sz,q0,vE,rS]
   repeat (go_big_quiet_step ((go_at_call 130;exact aS.call (sH _))))
   refine f' ?_;rintro c4⟨⟨cj,eX⟩,aT⟩;obtain rfl:c4=cj:=aT;have hq:=dv.kept eX;have atu:=eb.kept eX;have mJ:=cp.trans eX;have g5:=hq.cell k;rw[AI (by rw[tF];exact l8)]at g5;have r':=hq.lt;have aus:=hq.frozen k;clear ie s1 s2 eX;go_upto_region 6 with fail
   have e7:=hq.ba k (ah Z);rw[Jt]at e7;have PB:=atu.far (p:=⟨w.heap.size,k,none⟩) (Nat.ne_of_gt hN) (ah Z);have la:=mJ.setCell (p:=⟨w.heap.size,k,none⟩) (bB _) (ah Z);clear hq atu mJ g5 r' aus;generalize c4.setCell ⟨w.heap.size,k,none⟩ (ah Z)=dc at*;have g6:=e7.cell k;rw[AI (by rw[gJ,tF];exact l8),IQ (by rw[tF];exact l8)]at g6;have gl6:=e7.lt;have gf6:=e7.frozen k;have t2:=PB.cell 2;have SX:=PB.lt
   try simp only[hL,iP,jd]at t2
   have Im:=la.aI pg ph;have abl:=bG pg la.size;have gm:=I (bb e7 (bb PB la));clear e7 PB la ph;by_cases bP:Z= -1
   .cases Ra:atG k
    .rw[Ra]at Im;have fE:=I (show os k=Z by rw[kC,aw (by rw[Ra];simp)]);subst bP;go_wp2_with fail
     go_roundw
     case rel=>exact⟨(k:J)-1,_,by go_num,by omega,by omega,gm.1,gm.2.1,by rw[gJ];exact tF,wX _ fE,gm.2.2⟩
     case measure=>simp[intOf]<;>omega
    .rw[Ra]at Im;have fE:=I (show os k=(k:J) by rw[kC,aP ⟨bP,Ra⟩]);subst bP;go_wp2_with fail
     have o4:=gm.1.ba k k;rw[Jt,List.set_set]at o4;have TS:=I (bb o4 (bb (gm.out.2.1.far (p:=⟨w.heap.size,k,none⟩) (Nat.ne_of_gt hN.out) k) (gm.out.2.2.setCell (p:=⟨w.heap.size,k,none⟩) (bB _) k)));clear o4;go_roundw
     case rel=>exact⟨(k:J)-1,_,by go_num,by omega,by omega,TS.1,TS.2.1,by rw[gJ];exact tF,wX _ fE,TS.2.2⟩
     case measure=>simp[intOf]<;>omega
   .have fE:=I (show os k=Z by rw[kC,aw (λh=>bP h.1)]);go_wp2_with fail
    go_roundw
    case rel=>exact⟨(k:J)-1,_,by go_num,by omega,by omega,gm.1,gm.2.1,by rw[gJ];exact tF,wX _ fE,gm.2.2⟩
    case measure=>simp[intOf]<;>omega
  .have hi3:i= -1:=by omega
   subst hi3;have s2:=bH.cell 2;have tn:=bH.lt;simp only[hL,iP,jd]at s2;have bM:=I (show (List.range n).map os=o by
    apply A8;intro c;by_cases aq:c<n
    .rw[hS,ZX aq,Ao (by rw[oP];exact aq),Ee c (by omega) aq];rfl
    .rw[lR (by simp;omega),lR (by omega)])
   have dY:=I (XY bc);rw[oP]at dY;have cp:=I ax;clear bc bH ax Ee oP;go_wp2_with fail
   go_ret;exact⟨_,rfl,by rw[bM];exact dY,cp⟩
def aoL(fZ m_ dF:ak)(par pri:aW)(apl:List Bool)(w:ag)(eJ:gw w fZ par)(cL:gw w m_ pri)(a7:E9 w dF apl)(av:par.length<=1000)(az:pri.length<=1000):
  bg 93 #[fZ,m_,dF] w (Tx (kz par pri apl) w):=by
 have fE:=I (aop fZ m_ par pri w eJ cL av az);have eG:=I (λ(w1:ag)(ai:Kept w w1)(az:pri.length=par.length)(bD:apl.length=par.length)(hp:∀(i:aa) (p:J),par[i]?=some p->p<i)=>anu fZ m_ dF par pri apl w1 (eJ.kept ai) (cL.kept ai) (a7.kept ai) av az bD hp);have ct:=I (λ(w1:ag)(gr:ak)(o:aW)(ai:Kept w w1)(az:pri.length=par.length)(aA:o.length=par.length)(si:gw w1 gr o)=>adE (aF #[fZ,m_,gr]) par pri o (-1) w1 ⟨fZ,m_,gr,rfl,eJ.kept ai,cL.kept ai,si⟩ av az aA);obtain⟨xb,vj,rfl,-⟩:=eJ.at_;obtain⟨uG,nx,rfl,-⟩:=cL.at_;obtain⟨Tz,ac,rfl,-⟩:=a7.at_;have HJ:=I a7;clear eJ cL a7
 cases sk:o1 par pri
 .have aX:=I (show kz par pri apl= -1 by unfold kz;rw[aw (by rw[sk];simp)]);rw[sk]at fE;generalize kz par pri apl=T at*;generalize par.length=n at*;generalize pri.length=m at*;generalize apl.length=k at*;clear sk eG ct HJ;go_enter func93,ntmps93
  go_upto_region 2 with (go_at_call 128;refine fE.mono ?_;rintro e w1⟨c,rfl,-,aq,ai⟩;have dE:=aq rfl;have jj:(c !=0)=true:=(by simpa using dE);clear aq;have cp:=I ai;clear ai)
  go_wp2_with fail
  go_ret;exact⟨by rw[aX];rfl,cp⟩
 .by_cases ks:apl.length=par.length
  case neg=>
   have aX:=I (show kz par pri apl= -1 by unfold kz;rw[aw (λh=>ks h.2)]);rw[sk]at fE;generalize kz par pri apl=T at*;generalize par.length=n at*;generalize pri.length=m at*;generalize apl.length=k at*;have l8:¬(k:J)=n:=by omega
   have Gq:((k:J) !=n)=true:=by simp;omega
   clear sk eG ct HJ;go_enter func93,ntmps93
   go_upto_region 2 with (go_at_call 128;refine fE.mono ?_;rintro e w1⟨c,rfl,aq,-,ai⟩;obtain rfl:c=0:=aq rfl;have cp:=I ai;clear ai aq)
   go_wp2_with fail
   go_ret;exact⟨by rw[aX];rfl,cp⟩
  case pos=>
   have nK:pri.length=par.length:=by
    unfold o1 at sk;simp only[nB,gg]at sk;exact sk.1.symm
   have tW:∀(i:aa)(p:J),par[i]?=some p->p<i:=λi p h=>(((G' nK).1 sk).2 i p h).2.1;have wX:=I (λw1 ai=>eG w1 ai nK ks tW);have zO:=I (λ(w1:ag)(gr:ak)(ai:Kept w w1)(si:gw w1 gr ((List.range par).map (eu par (gW pri) (hF apl) par)))=>(by
    have ab:=ct.out w1 gr _ ai nK (by rw[er,vG]) si;have ad:nu (gW ((List.range par).map (eu par (gW pri) (hF apl) par))) (jI (gW pri) (gW ((List.range par).map (eu par (gW pri) (hF apl) par))) (gb par (-1)))=kz par pri apl:=by
     unfold kz;rw[aP ⟨sk,ks⟩];unfold xQ;refine aeA λc aq=> ?_;have jj:=Vj aq;unfold gW;rw[hS,ZX jj];rfl
    rw[ad]at ab;exact ab:bg 130 #[aF #[ae xb par vj,ae uG pri nx,gr],ah (-1)] w1 (Tx (kz par pri apl) w1)))
   rw[sk]at fE;generalize kz par pri apl=T at*;generalize (List.range par).map (eu par (gW pri) (hF apl) par)=r3 at*;rw[nK]at fE zO;rw[nK,ks]at wX⊢;clear sk eG ct HJ tW nK ks az;generalize par.length=n at*;go_enter func93,ntmps93
   go_upto_region 3 with (go_at_call 128;refine fE.mono ?_;rintro e w1⟨c,rfl,aq,-,ai⟩;obtain rfl:c=0:=aq rfl;have cp:=I ai;clear ai aq)
   have Ud:=I (wX w1 cp);go_wp2_with (first|(go_at_call 129;refine Ud.mono ?_;rintro e w2⟨u,rfl,bd,a8⟩;have b1:=I (zO w2 u (cp.trans a8) bd);obtain⟨kR,eg,rfl,-⟩:=gw.at_ bd;have hk:=I (cp.trans a8);clear bd a8)|(go_at_call 130;refine b1.mono ?_;rintro e ch⟨rfl,bd⟩;have gO:=I bd;clear bd))
   go_ret;exact⟨rfl,hk.trans gO⟩
end Go.Proofs.YtilhklpfkgbikaaGreatDoor
