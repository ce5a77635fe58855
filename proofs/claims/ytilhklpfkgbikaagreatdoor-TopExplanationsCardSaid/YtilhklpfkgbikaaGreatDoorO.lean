import Derived.Test.YtilhklpfkgbikaaGreatDoorG
import Derived.Test.YtilhklpfkgbikaaGreatDoorN
set_option linter.all false
namespace Go.Proofs.YtilhklpfkgbikaaGreatDoor
open Go.RowKit Go.Proofs.Tryz
set_option maxRecDepth 100000
set_option maxHeartbeats 16000000
def Bs:List cw->aa->Prop
 |[],h=>h=1
 |x::r,h=>∃a:aa,eP x.o=a/\a<=h/\h-a+1<=12/\Bs r (h-a+1)
theorem aeS:∀(r:List cw)(i:aa)(b0 ed:List aa),(lp r i b0 ed).2.2=0->(r≠[]\/b0≠[])->Bs r b0
 |[],i,b0,ed,h,bU=>by
  rw[lp]at h;split at h
  .exact absurd (show (4:J)=0 from h) (by decide)
  .have:b0.length≠0:=λe=>by
    rcases bU with ab|ab
    .exact ab rfl
    .exact ab (oC.1 e)
   show b0.length=1;omega
 |x::r,i,b0,ed,h,bU=>by
  rw[lp]at h;split at h
  .exact absurd (show (2:J)=0 from h) (by decide)
  .rename_i ar;split at h
   .exact absurd (show (5:J)=0 from h) (by decide)
   .rename_i ab;split at h
    .exact absurd (show (16:J)=0 from h) (by decide)
    .rename_i ad;have bO:=aeS r (i+1) _ _ h (.inr (by simp));have av:(b0.take (b0.length-(eP x.o).toNat)++[mv i (eP x.o).toNat b0]).length=b0.length-(eP x.o).toNat+1:=by
      rw[fk,gT,x5 (Nat.sub_le _ _)];rfl
     rw[av]at bO ad;exact⟨(eP x.o).toNat,by omega,by omega,by omega,bO⟩
def aeU{e:List cw}(h:(c' e).2.2=0):0<e.length/\e.length<=48/\Bs e 0:=by
 unfold c' at h;split at h
 .exact absurd (show (4:J)=0 from h) (by decide)
 .rename_i ab;split at h
  .exact absurd (show (5:J)=0 from h) (by decide)
  .rename_i ad;refine⟨by omega,by omega,?_⟩;have:=aeS e 0 [] [] h (.inl λhD=>ad (by rw[hD];rfl));exact this
def Bs.at_{xs:List cw}{i h:aa}{x:cw}(aj:xs[i]?=some x)(aT:Bs (xs.drop i) h):∃a:aa,eP x.o=a/\a<=h/\h-a+1<=12/\Bs (xs.drop (i+1)) (h-a+1):=by
 obtain⟨aD,rfl⟩:=b2 aj;rw[jA aD]at aT;exact aT
def Bs.end_{xs:List cw}{i h:aa}(aD:¬i<xs.length)(aT:Bs (xs.drop i) h):h=1:=by
 rw[zF.2 (show xs.length<=i by omega)]at aT;exact aT
def xS(s:kj):List cw->List dh->dh×J
 |[],st=>(st[0]?.getD t0,0)
 |x::r,st=>
  if x.n≠0/\zw x.o=false then (t0,2)
  else if (mC s x.o x.n (st.drop (st.length-(eP x.o).toNat))).2≠0 then (t0,(mC s x.o x.n (st.drop (st.length-(eP x.o).toNat))).2)
  else xS s r (st.take (st.length-(eP x.o).toNat)++[(mC s x.o x.n (st.drop (st.length-(eP x.o).toNat))).1])
def nT(s:kj)(e:List cw):dh×J:=if (c' e).2.2≠0 then (t0,(c' e).2.2)else xS s e []
def apV{s:kj}{xs:List cw}{i m a:aa}{x:cw}{st:List dh}(aj:xs[i]?=some x)(bD:eP x.o=a)(av:st.length=m+a):xS s (xs.drop i) st=
  if x.n≠0/\zw x.o=false then (t0,2)else if (mC s x.o x.n (st.drop m)).2≠0 then (t0,(mC s x.o x.n (st.drop m)).2)else xS s (xs.drop (i+1)) (st.take m++[(mC s x.o x.n (st.drop m)).1]):=by
 obtain⟨aD,rfl⟩:=b2 aj;rw[jA aD,xS,bD,av,c7,Nat.add_sub_cancel]
def Zw(R:dh×J)(w:ag)(r:Ending)(w':ag):Prop:=∃i:J,r=bL (bj #[aF #[R.1.k,R.1.e],i,R.2])/\Kept w w'
def S1{R:dh×J}{w w':ag}{k e c:J}(i:J)(h:R=(⟨k,e⟩,c))(ai:Kept w w'):Zw R w (bL (bj #[aF #[k,e],i,c])) w':=by
 subst h;exact⟨i,rfl,ai⟩
def am2(o n:J)(cm:ak)(bA:List dh)(cH:ak)(s:kj)(w:ag)(bE:mm w cm bA)(qO:eP o=bA.length)(bH:qv w cH s)(aH:n<=9223372036854775807):bg 179 #[aF #[o,n],cm,cH] w (rM (mC s o n bA) w):=by
 have aq:(1<=o/\o<=9)\/(35<=o/\o<=39)\/o=33\/o=34\/(10<=o/\o<=32):=by
  rcases Decidable.em ((1<=o/\o<=9)\/(35<=o/\o<=39)\/o=33\/o=34\/(10<=o/\o<=32))with h|h
  .exact h
  .unfold eP at qO;rw[aw (by omega),aw (by omega),aw (by omega),aw (by omega)]at qO;omega
 rcases aq with h|h|h|h|h
 .exact adC o n cm bA cH s w bE bH aH (.inl h)
 .exact adC o n cm bA cH s w bE bH aH (.inr h)
 .exact adD o n cm bA cH s w bE (by subst h;have:eP 33=1:=(by decide);omega) bH aH (.inl h)
 .exact adD o n cm bA cH s w bE (by subst h;have:eP 34=1:=(by decide);omega) bH aH (.inr h)
 .exact am3 o n cm bA cH s w bE qO bH h
def X0:(prog.info? 94).map (λi=>(i.zero,i.size,i.bytes))=some (some (aF #[(),()]),2,16):=by kernel_rfl
def Zv(x:dh):∀v∈lq x,v.oneCell'=true:=λv aK=>by
 simp only[lq,fM,nA,nd]at aK;rcases aK with rfl|rfl<;>rfl
def Zx{W:ag}{x:dh}{t:dC}:∀j u,(lq x)[j]?=some u->(W.alloc (.cells #[x.k,x.e] t)).cell? (((W,0):Addr).add j)=some u:=
 pf (l:=lq x)
def cb.SL{w:ag}{B:aa}{e:dC}{v:ak}{xs:List dh}(h:cb w B e lq 2 v xs):(v=ae none 0 0/\xs=[])\/
  ∃g cap,v=ae (some ⟨g,0,none⟩) xs cap/\xs.length<=cap/\cap<=maxLen/\B<=g/\g<w.heap.size/\∀(j:aa)(x:dh),xs[j]?=some x->aU w ⟨g,j*2,none⟩=some (ah x.k)/\aU w ⟨g,j*2+1,none⟩=some (ah x.e):=by
 obtain⟨A,cap,aK,dE,jj⟩:=h.form;obtain⟨pH,rj,hv',aj⟩:=h.jx S0;rcases h.2 with⟨rfl,aH⟩|⟨g,IE,cur,rfl,bc,al,az⟩
 .exact .inl ⟨rfl,oC.1 aH⟩
 .refine .inr ⟨g,IE,rfl,?_,?_,bc,(nW.1 al).1,λj x ay=> ?_⟩
  .simp only[i_]at aK;omega
  .simp only[i_]at aK;omega
  .have hp:0<xs.length:=by have:=(b2 ay).1;omega
   obtain⟨b,off,a7,af,aq⟩:=aj hp;simp only[i_]at hv';rw[a7]at hv';simp only[vF,wJ]at hv';obtain⟨⟨rfl,rfl,-⟩,-,-⟩:=hv';have hD:=aq j x ay 0 _ rfl;have aQ:=aq j x ay 1 _ rfl;rw[ql]at hD aQ;exact⟨hD,aQ⟩
def aqa(v:ak)(xs:List cw)(cH:ak)(s:kj)(w:ag)(cd:iU w v xs)(bH:qv w cH s):Calls prog 165 #[v,cH] w (Zw (nT s xs) w):=by
 obtain⟨cd,av,lH⟩:=cd;have fl:=I (λw1(h:Kept w w1)=>aeV v xs w1 (cd.kept h) (by omega));unfold Zh at fl;have Pg:=I (λo n cm bA w1(h:Kept w w1)(bE:mm w1 cm bA)qO aH=>am2 o n cm bA cH s w1 bE qO (bH.kept h) aH);unfold rM at Pg;have pL:=I (λop w1=>Iq op w1);have HU:=I (λop w1=>afj op w1);obtain⟨c5,ce,cV,cX,eh,ci,kO,cF,ff,lh,rfl,-⟩:=bH.form;obtain⟨A,cap,rfl,a7⟩:=cd.at_;obtain⟨n,tc⟩:∃n,n=xs.length:=⟨_,rfl⟩;rw[<-tc]at a7 av fl⊢;have bS:=I tc;obtain⟨R,aJ⟩:∃R,R=nT s xs:=⟨_,rfl⟩;rw[<-aJ];unfold nT at aJ;generalize s.ms.length=dS at*;generalize s.tb.length=dd at*;generalize s.ins.length=cC at*;generalize s.ds.length=ei at*;generalize s.md.length=eE at*;have kB:=I lH;obtain⟨i0,aD,fY,cG,eM⟩:=hy X0;have dP:=I (λh=>(aeU (e:=xs) h));obtain⟨sc,nL⟩:∃sc,(c' xs).2.2=sc:=⟨_,rfl⟩;obtain⟨Y9,XB⟩:∃Y9,(c' xs).2.1=Y9:=⟨_,rfl⟩;rw[nL,XB]at fl;rw[nL]at aJ;have HSC:=I nL;have aX:=I aJ;clear nL XB bH cd tc lH aJ;go_enter func165,ntmps165
 go_upto_region 1 with fail
 generalize aL:(w.alloc _).alloc _=W at*;obtain⟨bp,bh,bm⟩:=Kept.a_ aL;clear aL;go_upto_region 2 with (go_at_call 131;refine (fl _ bp).mono ?_;rintro e w1⟨u,rfl,-,au⟩)
 have gN:=bh.kept au;have df:=bm.kept au;have ca:=bp.trans au;clear bh bm bp au;by_cases ar:sc=0
 case neg=>
  have htn:(sc !=0)=true:=by simpa using ar
  obtain⟨a',b5,f2⟩:=df.q;have az:=I (aX.trans (aP ar));clear ar dP gN;go_wp2_with fail
  obtain⟨de,aS⟩:=jc 0 0 df ca (by omega);have da:=de.cell;exact bI (v:= .tuple #[.agg #[(),()],.int .i64 Y9,.int .i64 sc]) (by simp[results,results165,go_sem,da]) rfl (S1 _ az aS)
 subst ar;obtain⟨hp,DX,Av⟩:=dP.out HSC;rw[<-bS]at hp DX;have fa:=I (show xS s (xs.drop 0) []=R from (aX.trans (aw (λh=>h rfl))).symm);have uA:=I gN;have zO:=I df;have dA:=I ca;have HHT:=I Av;clear gN df ca Av aX;go_wp2_with fail
 go_loopw [10,29] (λz y wr=>∃(i:aa)(bA:List dh),y= .int .i64 i/\i<=n/\Bs (xs.drop i) bA.length/\Kept w wr/\aB wr w 228 #[.slice c5 dS ce,.slice cV dd cX,.slice eh cC ci,.slice kO ei cF,.slice ff eE lh,.bool s.hm]/\aB wr (w.heap.size+1) 94 #[(),()]/\cb wr (w.heap.size+2) 94 lq 2 z bA/\bA.length<=i/\xS s (xs.drop i) bA=R) (λ_ y _=>n-(intOf y).toNat)
 case atStart=>exact⟨0,[],rfl,d' _,HHT,dA,uA,zO,cb.nil _ _ _,bB _,fa.out⟩
 case round=>
  obtain⟨i,bA,rfl,dG,Av,ax,mO,qD,dZ,wj,a6⟩:=hrel;clear uA zO dA HHT fa;by_cases aN:i<n
  .obtain⟨c9,j0,rfl,fU,ef⟩:=a7 (by omega);have al:xs[i]?=some (xs[i]'(by have:=bS.out;omega)):=bn _;obtain⟨a,Gd,hah,akr,y9⟩:=Av.at_ al;obtain⟨m,po⟩:∃m,bA.length=m+a:=⟨bA.length-a,by omega⟩;rw[apV al Gd po]at a6;obtain⟨bX,bQ⟩:=ef i _ al;have l9:=kB.out _ (fe al);generalize xs[i]'(by have:=bS.out;omega)=X at*;obtain⟨op,N⟩:=X;dsimp only at bX bQ Gd l9 a6;obtain⟨gH,gB,ka,Rt⟩:∃gH gB ka,mC s op N (bA.drop m)=(⟨gH,gB⟩,ka):=⟨_,_,_,rfl⟩;rw[Rt]at a6;have ajE:=I (λw1=>(by have:=pL.out op w1;rwa [Gd]at this:Calls prog 152 #[op] w1 λe w'=>e= .returned (.int .i64 (a:J))/\w1=w'));have ab5:=I (HU op);have o_:=I (λdx eC a' w1(h:Kept w w1)(bE:mm w1 (.slice dx eC a') (bA.drop m))=>(by
    have:=Pg.out op N (.slice dx eC a') (bA.drop m) w1 h bE (by rw[OB,Gd];omega) l9.2;rwa [Rt]at this:Calls prog 179 #[.agg #[op,N],.slice dx eC a',.agg #[.slice c5 dS ce,.slice cV dd cX,.slice eh cC ci,.slice kO ei cF,.slice ff eE lh,.bool s.hm]] w1 λr w'=>r= .returned (.tuple #[.agg #[.int .i64 gH,.int .i64 gB],.int .i64 ka])/\Kept w1 w'))
   have iI:=ax.aI fU bX;have kk:=ax.aI fU bQ;have db:(i:J)<n:=by omega
   have ajT:=bG fU ax.size;have fa:=I a6;have s9:=dZ.SL;obtain⟨dx,co,bP,ace,arR⟩:=dZ.form;have ash:m<=11:=by omega
   have ha3:a<=3:=by have:=(DK op).2;omega
   rw[show bA.length-a+1=m+1 by omega]at y9;rw[po]at bP ace;subst bP;have Rq:m<=i:=by omega
   have HN:=I y9;have eG:=I dZ;have uF:=I s9;have yj:=I po;have tB:=I ax;have afZ:=I mO;have aaj:=I qD;have hwp:IntKind.i64.wrap (m:J)=m:=by rw[IntKind.wrap_i64];omega
   have GC:(m:J)<=co:=by omega
   have jW:(m:J)<=m+a:=by omega
   clear ef al y9 bX bQ Gd Av l9 pL Pg HU dP fl a7 ax dZ s9 po akr a6 Rt mO qD;go_upto_region 8 with fail
   have cd:=aB.new wr 101 #[op,N];have my:=(aG wr).alloc (.cells #[op,N] 101);have nN:(wr.alloc (.cells #[op,N] 101)).heap.size=wr.heap.size+1:=by simp
   generalize wr.alloc (.cells #[op,N] 101)=dV at*;have mO:=afZ.kept my;have qD:=aaj.kept my;have cp:=I (tB.trans my);have Bn:=I (eG.lk my);have Rg:w.heap.size+1<wr.heap.size:=aaj.lt;have Dm:=I (show∀g eC a',(Value.slice dx (m+a) co)= .slice (some ⟨g,0,none⟩) eC a'->∀(j:aa)(x:dh),bA[j]?=some x->dV.cell? ⟨g,j*2,none⟩=some (.int .i64 x.k)/\dV.cell? ⟨g,j*2+1,none⟩=some (.int .i64 x.e)from λg eC a' he j x ay=>by
    rcases Bn.out.SL with⟨ab,ad⟩|⟨ju,IE,ab,-,-,-,-,ad⟩
    .rw[ad]at ay;cases ay
    .rw[he]at ab;simp only[i_,vF,wJ]at ab;obtain⟨⟨rfl,-⟩,-⟩:=ab;exact ad j x ay)
   generalize wr.heap.size=g0 at*;have asR:g0<dV:=by omega
   clear nN;obtain⟨kI,nl⟩:=cd.p;by_cases Rb:N≠0/\zw op=false
   .have az:=I (fa.symm.trans (aP Rb));obtain⟨acj,ack⟩:=Rb;have B9:(N !=0)=true:=by simpa using acj
    have WB:=I (λw1=>(by have:=ab5.out w1;rwa [ack]at this:Calls prog 167 #[op] w1 λx w'=>x= .returned (.bool false)/\w1=w'));obtain⟨a',b5,f2⟩:=qD.q;clear acj ack;go_wp2_with (go_at_call 167;refine (WB _).mono ?_;rintro e w'⟨rfl,rfl⟩)
    obtain⟨de,aS⟩:=jc 0 0 qD cp (by omega);have da:=de.cell;exact bI (v:= .tuple #[.agg #[(),()],i,.int .i64 2]) (by simp[results,results165,go_sem,da]) rfl (S1 _ az aS)
   replace fa:=I ((aw Rb).symm.trans fa.out);have mU:(N=0)\/(zw op=true):=by
    rcases Decidable.em (N=0)with h|h
    .exact .inl h
    .exact .inr (by cases hu:zw op;exact absurd ⟨h,hu⟩ Rb;rfl)
   go_cut [42] (λz cj=>z= .bool false/\dV=cj)
   case first=>
    rcases mU with bP|bP
    .subst bP;go_wp2_with fail
     go_meet;exact⟨rfl,rfl⟩
    .have WB:=I (λw1=>(by have:=ab5.out w1;rwa [bP]at this:Calls prog 167 #[op] w1 λx w'=>x= .returned (.bool true)/\w1=w'));by_cases B9:N=0
     .subst B9;go_wp2_with fail
      go_meet;exact⟨rfl,rfl⟩
     .have hNb:(N !=0)=true:=by simpa using B9
      go_wp2_with (go_at_call 167;refine (WB _).mono ?_;rintro e w'⟨rfl,rfl⟩)
      go_meet;exact⟨rfl,rfl⟩
   case rest=>
    obtain⟨rfl,rfl⟩:=hcut;go_upto_region 11 with (go_at_call 152;refine (ajE _).mono ?_;rintro e w'⟨rfl,rfl⟩)
    have eF:=I (show∀X,Kept dV X->(Kept dV X/\X.cell? (w,0)=some (.slice c5 dS ce)/\X.cell? (w,1)=some (.slice cV dd cX)/\X.cell? (w,2)=some (.slice eh cC ci)/\X.cell? (w,3)=some (.slice kO ei cF)/\X.cell? (w,4)=some (.slice ff eE lh)/\X.cell? (w,5)=some (.bool s.hm)/\X.cell? (g0,0)=some (.int .i64 op)/\X.cell? (g0,1)=some (.int .i64 N))from λX h=>⟨h,(mO.kept h).cell 0,(mO.kept h).cell 1,(mO.kept h).cell 2,(mO.kept h).cell 3,(mO.kept h).cell 4,(mO.kept h).cell 5,(cd.kept h).cell 0,(cd.kept h).cell 1⟩);obtain⟨-,z0,fL,z2,z3,z4,z5,-,-⟩:=eF.out dV (aG _);have uA:=I mO;have zO:=I qD;clear mO qD cd my;go_cut [14,15] (λp c cj=>∃gt:aa,p= .pointer (some (gt,0))/\c= .int .i64 ka/\Kept dV cj/\dV<=gt/\aB cj gt 94 #[.int .i64 gH,.int .i64 gB])
    case first=>
     rcases uF.out with⟨bP,cr⟩|⟨g,IE,bP,WQ,WR,bc,s5,uS⟩
     .simp only[i_]at bP;obtain⟨rfl,M',rfl⟩:=bP;obtain rfl:m=0:=by omega
      obtain rfl:a=0:=by omega
      have o':=I (λX(_:Kept dV X)=>(⟨none,0,by rw[cr];rfl,λh=>by rw[cr]at h;exact absurd h (by simp)⟩:mm X bf (bA.drop 0)));clear M' cr GC jW;go_region_held3 (λX=>Kept dV X/\X.cell? (w,0)=some (.slice c5 dS ce)/\X.cell? (w,1)=some (.slice cV dd cX)/\X.cell? (w,2)=some (.slice eh cC ci)/\X.cell? (w,3)=some (.slice kO ei cF)/\X.cell? (w,4)=some (.slice ff eE lh)/\X.cell? (w,5)=some (.bool s.hm)/\X.cell? (g0,0)=some (.int .i64 op)/\X.cell? (g0,1)=some (.int .i64 N))
       ((refine eF _ ?_;(with_reducible repeat (first|exact .refl _|assumption|refine .drew ?_|refine .alloc ?_ _|refine .setCell ?_ (by simp only;omega) _|refine .trans ?_ ‹Kept _ _›))))
       ((go_at_call 179;refine (o_ none 0 0 _ ?_ ?_).mono ?_;(·refine Kept.trans cp ?_;(with_reducible first|exact (aG _).drew|exact (aG _).aZ.drew));(·refine o' _ ?_;(with_reducible first|exact (aG _).drew|exact (aG _).aZ.drew));rintro e c4⟨rfl,cy⟩;have pP:Kept dV c4:=(by (with_reducible first|exact (aG _).drew.trans cy|exact (aG _).aZ.drew.trans cy));have CW:=pP.size;(try (have jg:=(aB.drew (aB.new _ 94 #[(),()])).kept cy;have GQ:=jg.cell;have GS:=jg.lt;have GR:=jg.frozen));(try (have jg:=(aB.new _ 94 #[(),()]).kept cy;have GQ:=jg.cell;have GS:=jg.lt;have GR:=jg.frozen))))
      all_goals
       rename_i hHeld;clear hHeld;go_wp2_with fail
       go_meet
       first
       |exact⟨c4.heap.size,rfl,rfl,pP.alloc _,CW,aB.new _ _ _⟩
       |exact⟨dV.heap.size,rfl,rfl,(pP.setCell (bB _) _).setCell (bB _) _,bB _,(jg.ba 0 (.int .i64 gH)).ba 1 (.int .i64 gB)⟩
     .simp only[i_]at bP;obtain⟨rfl,-,rfl⟩:=bP;have WX:g<dV.heap.size:=by omega
      have Re:∀(j:aa)(x:dh),bA[j]?=some x->dV.cell? ⟨g,j*2,none⟩=some (.int .i64 x.k)/\dV.cell? ⟨g,j*2+1,none⟩=some (.int .i64 x.e):=Dm.out _ _ _ rfl;by_cases Ax:m=co
      .obtain rfl:a=0:=by omega
       subst Ax;have o':=I (λX(_:Kept dV X)=>(⟨some ⟨g,0,none⟩,0,by rw[vD (by have:=yj.out;omega)];rfl,λh=>by rw[vD (by have:=yj.out;omega)]at h;exact absurd h (by simp)⟩:mm X (.slice (some ⟨g,0,none⟩) 0 0) (bA.drop m)));clear uS Re WQ WR ace;go_region_held3 (λX=>Kept dV X/\X.cell? (w,0)=some (.slice c5 dS ce)/\X.cell? (w,1)=some (.slice cV dd cX)/\X.cell? (w,2)=some (.slice eh cC ci)/\X.cell? (w,3)=some (.slice kO ei cF)/\X.cell? (w,4)=some (.slice ff eE lh)/\X.cell? (w,5)=some (.bool s.hm)/\X.cell? (g0,0)=some (.int .i64 op)/\X.cell? (g0,1)=some (.int .i64 N))
        ((refine eF _ ?_;(with_reducible repeat (first|exact .refl _|assumption|refine .drew ?_|refine .alloc ?_ _|refine .setCell ?_ (by simp only;omega) _|refine .trans ?_ ‹Kept _ _›))))
        ((go_at_call 179;refine (o_ (some ⟨g,0,none⟩) 0 0 _ ?_ ?_).mono ?_;(·refine Kept.trans cp ?_;(with_reducible first|exact (aG _).drew|exact (aG _).aZ.drew));(·refine o' _ ?_;(with_reducible first|exact (aG _).drew|exact (aG _).aZ.drew));rintro e c4⟨rfl,cy⟩;have pP:Kept dV c4:=(by (with_reducible first|exact (aG _).drew.trans cy|exact (aG _).aZ.drew.trans cy));have CW:=pP.size;(try (have jg:=(aB.drew (aB.new _ 94 #[(),()])).kept cy;have GQ:=jg.cell;have GS:=jg.lt;have GR:=jg.frozen));(try (have jg:=(aB.new _ 94 #[(),()]).kept cy;have GQ:=jg.cell;have GS:=jg.lt;have GR:=jg.frozen))))
       all_goals
        rename_i hHeld;clear hHeld;go_wp2_with fail
        go_meet
        first
        |exact⟨c4.heap.size,rfl,rfl,pP.alloc _,CW,aB.new _ _ _⟩
        |exact⟨dV.heap.size,rfl,rfl,(pP.setCell (bB _) _).setCell (bB _) _,bB _,(jg.ba 0 (.int .i64 gH)).ba 1 (.int .i64 gB)⟩
      .have o':=I (show∀X,Kept dV X->mm X (.slice (some ⟨g,m*2,none⟩) a (co-m)) (bA.drop m)from λX h=>⟨some ⟨g,m*2,none⟩,co-m,by rw[OB,yj,Nat.add_sub_cancel_left],λhp=>⟨g,m*2,rfl,bG WX h.size,λj x ay=>by
        rw[Kb]at ay;obtain⟨hD,aQ⟩:=Re (m+j) _ ay;have e0':=h.aI WX hD;have sW:=h.aI WX aQ;rw[Nat.add_mul]at e0' sW;intro q u az;match q,az with
        |0,az=>obtain rfl:=cJ az;exact e0'
        |1,az=>obtain rfl:=cJ az;exact sW⟩⟩)
       have asi:m<co:=by omega
       have MM:¬(co=m):=by omega
       clear uS Re WQ WR;go_region_held3 (λX=>Kept dV X/\X.cell? (w,0)=some (.slice c5 dS ce)/\X.cell? (w,1)=some (.slice cV dd cX)/\X.cell? (w,2)=some (.slice eh cC ci)/\X.cell? (w,3)=some (.slice kO ei cF)/\X.cell? (w,4)=some (.slice ff eE lh)/\X.cell? (w,5)=some (.bool s.hm)/\X.cell? (g0,0)=some (.int .i64 op)/\X.cell? (g0,1)=some (.int .i64 N))
        ((refine eF _ ?_;(with_reducible repeat (first|exact .refl _|assumption|refine .drew ?_|refine .alloc ?_ _|refine .setCell ?_ (by simp only;omega) _|refine .trans ?_ ‹Kept _ _›))))
        ((go_at_call 179;refine (o_ (some ⟨g,m*2,none⟩) a (co-m) _ ?_ ?_).mono ?_;(·refine Kept.trans cp ?_;(with_reducible first|exact (aG _).drew|exact (aG _).aZ.drew));(·refine o' _ ?_;(with_reducible first|exact (aG _).drew|exact (aG _).aZ.drew));rintro e c4⟨rfl,cy⟩;have pP:Kept dV c4:=(by (with_reducible first|exact (aG _).drew.trans cy|exact (aG _).aZ.drew.trans cy));have CW:=pP.size;(try (have jg:=(aB.drew (aB.new _ 94 #[(),()])).kept cy;have GQ:=jg.cell;have GS:=jg.lt;have GR:=jg.frozen));(try (have jg:=(aB.new _ 94 #[(),()]).kept cy;have GQ:=jg.cell;have GS:=jg.lt;have GR:=jg.frozen))))
       all_goals
        rename_i hHeld;clear hHeld;go_wp2_with fail
        go_meet
        first
        |exact⟨c4.heap.size,rfl,rfl,pP.alloc _,CW,aB.new _ _ _⟩
        |exact⟨dV.heap.size,rfl,rfl,(pP.setCell (bB _) _).setCell (bB _) _,bB _,(jg.ba 0 (.int .i64 gH)).ba 1 (.int .i64 gB)⟩
    case rest=>
     obtain⟨gt,rfl,rfl,p7,hgt,BT⟩:=hcut;have gN:=uA.kept p7;have df:=zO.kept p7;have Bt:=cp.trans p7;clear z0 fL z2 z3 z4 z5 eF kI nl;by_cases XI:ka=0
     .subst XI;replace fa:=I ((aw (λh=>h rfl)).symm.trans fa.out);obtain⟨yH,btl⟩:=BT.p;have c8:=(Bn.lk p7).take S0 (show m<=m+a by omega);have Gs:(bA.take m).length=m:=by rw[gT,yj];omega
      have zQ:=I Gs;have Bl:=I (Zx (W:=wc.drew) (x:=⟨gH,gB⟩) (t:=94));have Fq:=I (Zv ⟨gH,gB⟩);have sK:Hid ((wc.drew.alloc (.cells #[.int .i64 gH,.int .i64 gB] 94)).ownsRow (w.heap.size+2) 94 2 (.slice dx m co) m ((bA.take m).flatMap lq)):=I (by
       have h:=cb.alloc (w:=wc.drew) c8 (.cells #[.int .i64 gH,.int .i64 gB] 94);unfold cb at h;rwa [Gs]at h)
      have WY:=Bt.size;have hR:dV<=wc.heap.size:=p7.size;have zN:Hid (w.heap.size+2<=(wc.drew.alloc (.cells #[.int .i64 gH,.int .i64 gB] 94)).heap.size):=I (by simp;omega);have pq:m+1<=maxLen:=by unfold maxLen;omega
      have n6:=I c8;have HKC:=I Bt;have aag:=I gN;have aah:=I df;clear Gs c8 Bt gN df p7 BT;go_upto_region 14 with fail
      go_region_law (first|(refine Hj _ rfl (.tmp 67) (.tmp 69) 65 rfl (w.heap.size+2) 94 i0 (.agg #[(),()]) 2 16 underlying65 aD fY cG eM rfl (by decide) _ m ((bA.take m).flatMap lq) (by simp[Act.eval]) sK ⟨wc.drew.heap.size,0,none⟩ 1 1 (lq ⟨gH,gB⟩) (by simp[Act.eval]) rfl Bl Fq (by decide) pq (by omega) zN _ rfl ?_;intro ju rj w2 gy cu _ _))
      all_goals
       have kS:(wc.drew.alloc (.cells #[.int .i64 gH,.int .i64 gB] 94)).grownBy w2 (Value.slice dx m co).ownBlock:=cu;clear cu;have uD:=I kS;have o9:=I gy;clear kS gy;go_wp2_with fail
       go_roundw
       case rel=>exact⟨i+1,bA.take m++[⟨gH,gB⟩],by go_num,aN,by rw[fk,zQ];exact HN,xN (HKC.drewN 1) n6 (by omega) uD,(Sx (wr:=wc.drew) n6 uD aag.lt (by omega)).trans aag,(Sx (wr:=wc.drew) n6 uD aah.lt (by omega)).trans aah,cb.snoc (by rw[zQ];exact o9),by rw[fk,zQ];simp;omega,fa.out⟩
       case measure=>simp[intOf];omega
     .have htn:(ka !=0)=true:=by simpa using XI
      have az:=I (fa.symm.trans (aP XI));obtain⟨a',b5,f2⟩:=df.q;clear BT gN;go_wp2_with fail
      obtain⟨de,aS⟩:=jc 0 0 df Bt (by omega);have da:=de.cell;exact bI (v:= .tuple #[.agg #[(),()],i,.int .i64 ka]) (by simp[results,results165,go_sem,da]) rfl (S1 _ az aS)
  .obtain rfl:n=i:=by omega
   have db:¬((n:J)<n):=by omega
   have ab:=Av.end_ (by have:=bS.out;omega);have hg:bA[0]?=some (bA[0]'(by omega)):=bn _;rcases dZ.SL with⟨-,cr⟩|⟨g,IE,rfl,WQ,WR,bc,s5,uS⟩
   .subst cr;exact absurd ab (by simp)
   obtain⟨hD,aQ⟩:=uS 0 _ hg;rw[vD (by have:=bS.out;omega),xS,hg,b9]at a6;generalize bA[0]'(by omega)=T at*;obtain⟨gH,gB⟩:=T;dsimp only at hD aQ;rw[ab];obtain⟨a',b5,f2⟩:=qD.q;have hgs:w.heap.size+1<wr.heap.size:=qD.lt;rw[vA]at hD aQ;have fa:=I a6;clear uS hg a7 Av mO dZ pL Pg dP fl a6;go_wp2_with fail
   obtain⟨de,aS⟩:=jc gH gB qD ax (by omega);have da:=de.cell;exact bI (v:= .tuple #[.agg #[.int .i64 gH,.int .i64 gB],(),()]) (by simp[results,results165,go_sem,da]) rfl (S1 _ fa.symm aS)
def WI(v:ak)(xs:List pI)(s:ez)(w:ag)(bk:c0 2 n2 w v xs):bg 83 #[v,s] w (fo (fV s (xs.map (·.aM))) w):=by
 have ct:=I (λw1(h:Kept w w1)(cd:ly w1 w 0 s)=>aiB v xs w 0 s w1 (bk.kept n2.kept h) cd);unfold fo at ct⊢;obtain⟨A,cap,rfl,-⟩:=bk;have aV:=I ((aG w).alloc (.cells #[s] 9));have b3:=I (show ly (w.alloc (.cells #[s] 9)) w 0 s from⟨(aB.new w _ _).lt,(aB.new w _ _).cell 0⟩);go_enter func83,ntmps83
 go_wp2_with (go_at_call 113;refine (ct _ aV b3).mono ?_;rintro e w1⟨rfl,au⟩)
 go_ret;exact⟨rfl,aV.trans au⟩
def ab9(v:ak)(xs:List lB)(s:ez)(w:ag)(bk:c0 6 ld w v xs):bg 84 #[v,s] w (fo (fV s (xs.map (·.aM))) w):=by
 have ct:=I (λw1(h:Kept w w1)(cd:ly w1 w 0 s)=>aiF v xs w 0 s w1 (bk.kept ld.kept h) cd);unfold fo at ct⊢;obtain⟨A,cap,rfl,-⟩:=bk;have aV:=I ((aG w).alloc (.cells #[s] 9));have b3:=I (show ly (w.alloc (.cells #[s] 9)) w 0 s from⟨(aB.new w _ _).lt,(aB.new w _ _).cell 0⟩);go_enter func84,ntmps84
 go_wp2_with (go_at_call 115;refine (ct _ aV b3).mono ?_;rintro e w1⟨rfl,au⟩)
 go_ret;exact⟨rfl,aV.trans au⟩
def lg(q:Prop)(w:ag)(e:Ending)(w':ag):Prop:=∃c:J,e=bL c/\(c=0↔q)/\Kept w w'
def lg.mk{q:Prop}{w w':ag}{c:J}(h:c=0↔q)(ai:Kept w w'):lg q w (bL c) w':=⟨c,rfl,h,ai⟩
def abc(v:ak)(xs:List cw)(cH:ak)(s:kj)(gH gB:J)(w:ag)(cd:iU w v xs)(bH:qv w cH s):bg 149 #[v,cH,aF #[gH,gB]] w (lg (nT s xs=(⟨gH,gB⟩,0)) w):=by
 have c8:=I (λw1(h:Kept w w1)=>aqa v xs cH s w1 (cd.kept h) (bH.kept h));unfold Zw at c8;obtain⟨A,cap,rfl,-⟩:=cd.1.at_;obtain⟨c5,ce,cV,cX,eh,ci,kO,cF,ff,lh,rfl,-⟩:=bH.form;generalize nT s xs=R at*;obtain⟨⟨k,e⟩,c⟩:=R;generalize xs.length=n at*;generalize s.ms.length=dS at*;generalize s.tb.length=dd at*;generalize s.ins.length=cC at*;generalize s.ds.length=ei at*;generalize s.md.length=eE at*;clear cd bH;go_enter func149,ntmps149
 go_upto_region 1 with fail
 generalize aL:(w.alloc _).alloc _=W at*;obtain⟨bp,bh,bm⟩:=Kept.a_ aL;clear aL;obtain⟨aY,bq⟩:=bh.p;go_upto_region 2 with (go_at_call 165;refine (c8 _ bp).mono ?_;rintro aQ w1⟨i,rfl,au⟩;have ca:=(bp.trans au).alloc (.cells #[k,e] 94);have df:=(bm.kept au).alloc (.cells #[k,e] 94);have yb:=aB.new w1 94 #[k,e])
 generalize w1.alloc (.cells #[k,e] 94)=ha at*;obtain⟨d2,m2⟩:=df.p;obtain⟨d7,m7⟩:=yb.p;clear aY bq bh bm;by_cases aq:c=0
 case neg=>
  have jv:(c !=0)=true:=by simpa using aq
  have az:=I (show c=0↔((⟨k,e⟩,c):dh×J)=(⟨gH,gB⟩,0)from⟨λh=>absurd h aq,λh=>absurd (A9 h).2 aq⟩);clear aq;go_wp2_with fail
  go_ret;exact lg.mk az ca
 subst aq;by_cases ai:k=gH
 case neg=>
  have Gq:(k==gH)=false:=by simpa using ai
  have az:=I (show (8:J)=0↔((⟨k,e⟩,0):dh×J)=(⟨gH,gB⟩,0)from⟨λh=>absurd h (by decide),λh=>absurd (congrArg dh.k (A9 h).1) ai⟩);clear ai;go_wp2_with fail
  go_ret;exact lg.mk az ca
 by_cases he:e=gB
 case neg=>
  have WT:(e==gB)=false:=by simpa using he
  have az:=I (show (8:J)=0↔((⟨k,e⟩,0):dh×J)=(⟨gH,gB⟩,0)from⟨λh=>absurd h (by decide),λh=>absurd (congrArg dh.e (A9 h).1) he⟩);clear he;subst ai;go_wp2_with fail
  go_ret;exact lg.mk az ca
 subst ai he;go_wp2_with fail
 go_ret;exact lg.mk (by simp) ca
def ap7{w wr w1:ag}{A:gu}{n cap g1 aY:aa}{out:List dh}{x:dh}(aH:out.length=n)(ai:Kept w wr)(dZ:cb wr w 94 lq 2 (ae A n cap) out)(ab:w1.ownsRow w 94 2 (ae (some (g1,0)) (n+1) aY) (n+1) (out.flatMap lq++lq x))(ad:(wr.alloc (.cells #[x.k,x.e] 94)).grownBy w1 (Value.slice A n cap).ownBlock)(ao:(Value.slice A n cap).ownBlock=some g1\/g1=(wr.alloc (.cells #[x.k,x.e] 94)).heap.size):
  Kept w w1/\cb w1 w 94 lq 2 (ae (some (g1,0)) (n+1) aY) (out++[x]):=by
 subst aH;exact⟨(aha (n:=out.length+1) (cap:=aY) ad ao).below ai (λ_ af=>(dZ.owned af).1),cb.snoc ab⟩
def ap8{w wr:ag}{A:gu}{n cap:aa}{out:List dh}(x:dh)(aH:out.length=n)(dZ:cb wr w 94 lq 2 (ae A n cap) out):
  (wr.alloc (.cells #[x.k,x.e] 94)).ownsRow w 94 2 (ae A n cap) n (out.flatMap lq):=by
 subst aH;exact cb.alloc dZ _
def kq(x:mI):dh:=⟨x.k,x.e⟩
def V7(xs:List mI)(w:ag)(e:Ending)(w':ag):Prop:=∃v,e=bL v/\cb w' w 94 lq 2 v (xs.map kq)/\Kept w w'
def VY(v:ak)(xs:List mI)(w:ag)(bk:c0 3 jt w v xs):bg 145 #[v] w (V7 xs w):=by
 obtain⟨A,cap,rfl,-,av,a7⟩:=bk;obtain⟨n,aH⟩:∃n,n=xs.length:=⟨_,rfl⟩;rw[<-aH]at av a7⊢;have bS:=I aH;clear aH;obtain⟨i0,aD,fY,cG,eM⟩:=hy X0;go_enter func145,ntmps145
 go_wp2_with fail
 go_loopw [3,8] (λz y wr=>∃(i:aa),y=ah i/\i<=n/\Kept w wr/\cb wr w 94 lq 2 z ((xs.take i).map kq)) (λ_ y _=>n-(intOf y).toNat)
 case atStart=>exact⟨0,rfl,d' _,aG _,cb.nil _ _ _⟩
 case round=>
  obtain⟨i,rfl,dG,ax,cN⟩:=hrel;obtain⟨at0,co,rfl,dE,jj⟩:=cN.form;have oP:((xs.take i).map kq).length=i:=by rw[er,gT];have:=bS.out;omega
  rw[oP]at dE cN⊢;have tF:=I oP;have eG:=I cN;have cp:=I ax;by_cases aN:i<n
  .obtain⟨b,o,rfl,af,aq⟩:=a7 (by omega);have al:xs[i]?=some (xs[i]'(by have:=bS.out;omega)):=bn _;obtain⟨⟨t0,-⟩,⟨t1,-⟩,⟨t2,-⟩⟩:=aq i _ al;have fl:=I (show (xs.take (i+1)).map kq=(xs.take i).map kq++[kq (xs[i]'(by have:=bS.out;omega))] by rw[Ho (by have:=bS.out;omega),k6];rfl);generalize xs[i]'(by have:=bS.out;omega)=x at*;obtain⟨aM,k,e⟩:=x;unfold g' at t0 t1 t2;dsimp only at t0 t1 t2;have bX:=ax.aI af t0;have bQ:=ax.aI af t1;have cx:=ax.aI af t2;have db:(i:J)<n:=by omega
   have pq:i+1<=maxLen:=by unfold maxLen;omega
   have WY:=ax.size;clear aq a7 t0 t1 t2 oP cN al;have oe:=ax.alloc (.cells #[aM,k,e] 113);have Bn:=I (cb.alloc eG (.cells #[aM,k,e] 113));have g_:=aB.new wr 113 #[aM,k,e];go_upto_region 5 with fail
   generalize wr.alloc (.cells #[aM,k,e] 113)=dV at*;obtain⟨ew,ni⟩:=g_.p;have dA:=I oe;have ar3:=oe.size;have wX:Hid (cb dV w 94 lq 2 (ae at0 i co) ((xs.take i).map kq)):=I Bn.out;clear oe ax bX bQ cx g_;go_wp2_with (at_builtin;go_loud (refine Tk _ rfl (.tmp 12) (.tmp 15) 65 rfl w 94 i0 (aF #[(),()]) 2 16 underlying65 aD fY cG eM rfl (by decide) _ i (((xs.take i).map kq).flatMap lq) rfl (ap8 ⟨k,e⟩ tF wX) ⟨dV.heap.size,0,none⟩ 1 1 (lq ⟨k,e⟩) rfl rfl Zx (Zv _) (by decide) pq (by omega) (by simp;omega) _ rfl ?_);intro g1 aY w1 ab ad ao aR;obtain⟨au,vK⟩:=ap7 tF dA wX ab ad ao)
   go_roundw
   case rel=>exact⟨i+1,by go_num,aN,au,by rw[fl];exact vK⟩
   case measure=>simp[intOf];omega
  .obtain rfl:n=i:=by omega
   have db:¬((n:J)<n):=by omega
   have c8:=I (show (xs.take n).map kq=xs.map kq by rw[mH (by have:=bS.out;omega)]);clear a7 oP cN ax;go_wp2_with fail
   go_ret;exact⟨_,rfl,by rw[<-c8];exact eG,cp⟩
def Oa(s:ez):Bool:=decide (s.size<=64)&&((! decide (0<=Lib.indexByte s.data.toList 34))&&(L s).all λc=>decide (32<=c.toNat/\c.toNat<=126))
def ao2{s:ez}{i:aa}(h:i<s.size):((L s).drop i).all (λc=>decide (32<=c.toNat/\c.toNat<=126))=(decide (32<=s[i].toNat/\s[i].toNat<=126)&&((L s).drop (i+1)).all λc=>decide (32<=c.toNat/\c.toNat<=126)):=by
 have av:i<(L s).length:=by rw[DB];exact h
 rw[jA av,Hm];rfl
def aqx(s:ez)(w:ag)(aO:s.size<=140737488355328):bg 148 #[s] w (fo (Oa s) w):=by
 have ct:=I (λw1=>(Tryz.strings_Contains_one s 34 w1).mono λ_ _ h=>bb h.1 h.2.symm);unfold fo;obtain⟨R,aJ⟩:∃R,R=Oa s:=⟨_,rfl⟩;rw[<-aJ];unfold Oa at aJ;by_cases ab:s.size<=64
 case neg=>
  have V_:(64:J)<s.size:=by omega
  have aX:=I (show R=false by rw[aJ,jC ab];rfl);clear aJ ab;go_enter func148,ntmps148
  go_wp2_with fail
  go_ret;exact⟨fG aX.symm,aG _⟩
 have V_:¬((64:J)<s.size):=by omega
 rw[jR ab,Kf]at aJ
 cases aq:decide (0<=Lib.indexByte s.data.toList 34)
 case true=>
  rw[aq]at aJ ct;have aX:=I aJ;clear aJ aq;go_enter func148,ntmps148
  go_wp2_with (go_at_call 164;refine (ct _).mono ?_;rintro e w1⟨rfl,rfl⟩)
  go_ret;exact⟨fG aX.symm,aG _⟩
 rw[aq]at aJ ct;have aX:=I (show ((L s).drop 0).all (λc=>decide (32<=c.toNat/\c.toNat<=126))=R from aJ.symm);clear aJ aq;go_enter func148,ntmps148
 go_wp2_with (go_at_call 164;refine (ct _).mono ?_;rintro e w1⟨rfl,rfl⟩)
 go_loopw [13] (λz wr=>∃i:aa,z=ah i/\i<=s.size/\Kept w wr/\((L s).drop i).all (λc=>decide (32<=c.toNat/\c.toNat<=126))=R) (λz _=>s.size-(intOf z).toNat)
 case atStart=>exact⟨0,rfl,d' _,aG _,aX⟩
 case round=>
  obtain⟨i,rfl,dG,ax,a6⟩:=hrel;by_cases aN:i<s.size
  .rw[ao2 aN]at a6;have db:(i:J)<s.size:=by omega
   by_cases bD:s[i].toNat<32
   .have b1:=I (show R=false by rw[<-a6,jC (by omega)];rfl);have hai:((s[i].toNat:aa):J)<32:=by omega
    clear a6;go_wp2_with fail
    go_ret;exact⟨fG b1.symm,ax⟩
   have hai:¬((s[i].toNat:aa):J)<32:=by omega
   by_cases af:126<s[i].toNat
   .have b1:=I (show R=false by rw[<-a6,jC (by omega)];rfl);have WK:(126:J)<((s[i].toNat:aa):J):=by omega
    clear a6;go_wp2_with fail
    go_ret;exact⟨fG b1.symm,ax⟩
   have WK:¬(126:J)<((s[i].toNat:aa):J):=by omega
   rw[jR (by omega),Kf]at a6;have b1:=I a6;clear a6;go_wp2_with fail
   go_roundw
   case rel=>exact⟨i+1,by go_num,aN,ax,b1⟩
   case measure=>simp[intOf];omega
  .have aD:i=s.size:=by omega
   have db:¬((i:J)<s.size):=by omega
   rw[vD (by rw[DB];omega)]at a6;have b1:=I a6;clear a6 aD;go_wp2_with fail
   go_ret;exact⟨fG b1,ax⟩
def q3(ms:List gh)(f:mI)(a b:List mI):Prop:=nP (L f.aM)=true/\f.aM∉a.map (·.aM)/\f.aM∉b.map (·.aM)/\lr f.k f.e ms=true
def abb(dw cM cH dF bv:ak)(ms:List gh)(f:mI)(a b:List mI)(dd cX fO fJ:aa)(cV hM:gu)(XK:cM=ae cV dd cX)(Cy:cH=ae hM fO fJ)(w:ag)(a1:Enums w dw ms)(a7:c0 3 jt w dF a)(bc:c0 3 jt w bv b)(aO:f.aM.size<=140737488355328):
  bg 119 #[aF #[dw,cM,cH],aF #[f.aM,f.k,f.e],dF,bv] w (lg (q3 ms f a b) w):=by
 have cI:=I (λw1(h:Kept w w1)(cd:ly w1 (w.heap.size+1) 0 f.aM)=>abu dF a (w.heap.size+1) 0 f.aM w1 (a7.kept jt.kept h) cd);have dv:=I (λw1(h:Kept w w1)(cd:ly w1 (w.heap.size+1) 0 f.aM)=>abu bv b (w.heap.size+1) 0 f.aM w1 (bc.kept jt.kept h) cd);have fE:=I (λw1(h:Kept w w1)=>On f.k f.e dw ms w1 (a1.kept h));have dY:=I (λw1=>Nv f.aM aO w1);unfold fo at cI dv;subst XK Cy;obtain⟨k9,fc,rfl,-⟩:=a1;obtain⟨Tz,ac,rfl,-⟩:=a7;obtain⟨TG,Af,rfl,-⟩:=bc;obtain⟨Q,cL⟩:∃Q,Q=q3 ms f a b:=⟨_,rfl⟩;rw[<-cL];unfold q3 at cL;rw[<-GX,<-GX]at cL;obtain⟨aM,k,e⟩:=f;dsimp only at*;generalize nP (L aM)=bd at*;generalize fV aM (a.map (·.aM))=a8 at*;generalize fV aM (b.map (·.aM))=dI at*;generalize lr k e ms=dk at*;generalize ms.length=dS at*;generalize a.length=avD at*;generalize b.length=nb at*;have b1:=I cL;clear cL;go_enter func119,ntmps119
 go_upto_region 1 with fail
 generalize aL:(w.alloc _).alloc _=W at*;obtain⟨bp,bh,bm⟩:=Kept.a_ aL;clear aL;obtain⟨aY,bq⟩:=bh.p;obtain⟨a',b5⟩:=bm.p;have b3:=I (λw1(h:Kept W w1)=>ly.kept (s:=aM) (g:=w.heap.size+1) (o:=0) ⟨bm.lt,bm.cell 0⟩ h);have e3:=I (λw1(h:Kept W w1)=>bh.kept h);have eA:=I (λw1(h:Kept W w1)=>bm.kept h);clear bh bm
 cases bd
 .have az:=I (show (2:J)=0↔Q by rw[b1];simp);go_wp2_with (go_at_call 82;refine (dY _).mono ?_;rintro aQ w1⟨rfl,rfl⟩)
  go_ret;exact lg.mk az bp
 go_upto_region 4 with (go_at_call 82;refine (dY _).mono ?_;rintro aQ w1⟨rfl,rfl⟩)
 cases a8
 case true=>
  have az:=I (show (7:J)=0↔Q by rw[b1];simp);go_wp2_with (go_at_call 144;refine (cI _ bp (b3 _ (aG _))).mono ?_;rintro aQ w1⟨rfl,au⟩)
  go_ret;exact lg.mk az (bp.trans au)
 cases dI
 case true=>
  have az:=I (show (7:J)=0↔Q by rw[b1];simp);go_wp2_with (go_at_call 144;first|(refine (cI _ bp (b3 _ (aG _))).mono ?_;rintro aQ w1⟨rfl,au⟩)|(refine (dv _ (bp.trans au) (b3 _ au)).mono ?_;rintro aQ w2⟨rfl,bt⟩))
  go_ret;exact lg.mk az ((bp.trans au).trans bt)
 go_upto_region 6 with (go_at_call 144;first|(refine (cI _ bp (b3 _ (aG _))).mono ?_;rintro aQ w1⟨rfl,au⟩)|(refine (dv _ (bp.trans au) (b3 _ au)).mono ?_;rintro aQ w2⟨rfl,bt⟩))
 have c3:=(bp.trans au).trans bt;have d1:=(e3 _ (au.trans bt)).cell;have m1:=(e3 _ (au.trans bt)).lt;have d2:=(eA _ (au.trans bt)).cell;have m2:=(eA _ (au.trans bt)).lt;clear aY bq a' b5
 cases dk
 .have az:=I (show (8:J)=0↔Q by rw[b1];simp);go_wp2_with (go_at_call 105;refine (fE _ c3).mono ?_;rintro aQ ch⟨rfl,bF⟩)
  go_ret;exact lg.mk az (c3.trans bF)
 .go_wp2_with (go_at_call 105;refine (fE _ c3).mono ?_;rintro aQ ch⟨rfl,bF⟩)
  go_ret;exact lg.mk (by rw[b1];simp) (c3.trans bF)
def c0.take{α:Type}{k:aa}{P:ag->aa->aa->α->Prop}{w:ag}{A:gu}{n c i:aa}{xs:List α}(h:c0 k P w (ae A n c) xs)(aD:i<=xs.length):c0 k P w (ae A i c) (xs.take i):=by
 obtain⟨pH,fF,he,ab,ad,aj⟩:=h
 cases he;refine⟨A,c,by rw[gT,x5 aD],by rw[gT];omega,by rw[gT];omega,λhp=> ?_⟩;rw[gT]at hp;obtain⟨b,off,a7,af,aq⟩:=aj (by omega);refine⟨b,off,a7,af,λj x ay=>aq j x ?_⟩;rw[Tl]at ay;split at ay
 .exact ay
 .cases ay
def aiA(cc:gh)(x:ez):Lib.containsS cc x=fV x cc:=by
 rw[nZ,GX,Lib.containsS_iff]
def aiC(A:gu)(j n cap:aa)(xs:gh)(x:ez)(ay:j<=xs.length)(w:ag)(h:xe w (ae A n cap) xs):bg 104 #[ae A j cap,x] w (fo (fV x (xs.take j)) w):=by
 by_cases ar:j=0
 .subst ar;exact (Tryz.slices_Contains_string_empty A cap x w).mono λ_ _ h=>⟨h.1,h.2▸aG _⟩
 .obtain⟨pH,fF,he,ab,ad,aj⟩:=h
  cases he;obtain⟨b,off,rfl,af,aq⟩:=aj (by omega);refine (Tryz.slices_Contains_string b off j cap xs x w ay (by omega) λi aD=> ?_).mono λ_ _ h=>⟨?_,h.2▸aG _⟩
  .have al:xs[i]?=some (xs.getD i ByteArray.empty):=by rw[List.getD_eq_getElem?_getD,bn aD];rfl
   have:=(aq i _ al).1;rw[jD]at this;exact this
  .rw[h.1,aiA]
def ob(q:Prop)(w:ag)(e:Ending)(w':ag):Prop:=∃c d:J,e=bL (bj #[c,d])/\(c=0↔q)/\ -9223372036854775808<=d/\d<=9223372036854775807/\Kept w w'
def ob.mk{q:Prop}{w w':ag}{c d:J}(h:c=0↔q)(ab: -9223372036854775808<=d)(ad:d<=9223372036854775807)(ai:Kept w w'):ob q w (bL (bj #[c,d])) w':=⟨c,d,rfl,h,ab,ad,ai⟩
structure Hu(bs:List pI)(i:aa)(x:pI):Prop where
 id:nP (L x.aM)=true
 zn:fV x.aM ((bs.take i).map (·.aM))=false
 e2:0<x.mem.length
 aD:x.mem.length<=16
 mem:∀j m,x.mem[j]?=some m->nP (L m)=true/\fV m (x.mem.take j)=false
def ahN(cm vy:ak)(l:cO)(i:aa)(x:pI)(w:ag)(bE:h1 w cm l)(aD:l.bs[i]?=some x)(bk:xe w vy x.mem)(aO:x.aM.size<=140737488355328):
  bg 80 #[cm,i,aF #[x.aM,vy]] w (ob (Hu l.bs i x) w):=by
 obtain⟨dw,cM,cH,rfl,ar,ab,ad⟩:=bE;have fB:=(b2 aD).1;obtain⟨c5,eW,rfl,hcE,hlE,Nr⟩:=id ar;obtain⟨be,YG,rfl,-⟩:=Nr (by omega);have cW:=I (λw1(h:Kept w w1)=>WI _ _ x.aM w1 ((c0.take ar (ui fB)).kept n2.kept h));obtain⟨cV,cX,rfl,-⟩:=id ab;obtain⟨hM,fJ,rfl,-⟩:=id ad;obtain⟨ff,ih,rfl,hcM,hlM,RR⟩:=id bk;have cB:=I (λj m(ay:j<=x.mem.length)w1(h:Kept w w1)=>aiC ff j x.mem ih x.mem m ay w1 (bk.kept h));have dY:=I (λs(aO:s.size<=140737488355328)w1=>Nv s aO w1);unfold fo at cW cB;obtain⟨Q,cL⟩:∃Q,Q=Hu l.bs i x:=⟨_,rfl⟩;rw[<-cL];have b1:=I cL;have e':=I (λ(c:J)(aq:c≠0)(h:¬Hu l.bs i x)=>(show c=0↔Q from⟨λe=>absurd e aq,λq=>absurd (b1▸q) h⟩));have eb:=I aO;have HXM:=I RR;have db:(i:J)<=eW:=by omega
 have dG:(i:J)<l.bs.length:=by omega
 have hi6:(i:J)<=8796093022208:=by omega
 generalize AA:x.aM=aM at*;generalize p2:x.mem.length=eE at*;generalize l.bs.length=dS at*;generalize l.tb.length=dd at*;generalize l.sc.length=fO at*;have pN:=I AA;have tD:=I p2;clear ar ab ad bk Nr RR cL aD AA p2;go_enter func80,ntmps80
 go_upto_region 1 with fail
 generalize aL:(w.alloc _).alloc _=W at*;obtain⟨bp,bh,bm⟩:=Kept.a_ aL;clear aL;have eA:=I (λw1(h:Kept W w1)=>bm.kept h);have e3:=I (λw1(h:Kept W w1)=>bh.kept h);obtain⟨aY,bq⟩:=bh.p;obtain⟨a',b5⟩:=bm.p;clear bh bm
 cases jn:nP (L aM)
 case false=>
  have az:=I (e' 2 (by decide) (λh=>by have:=h.id;rw[pN,jn]at this;cases this));go_wp2_with (go_at_call 82;refine (dY _ eb _).mono ?_;rw[jn];rintro aQ w1⟨rfl,rfl⟩)
  exact bI (v:=bj #[ah 2,()]) (by simp[results,results80,go_sem]) rfl (ob.mk az (by decide) (by decide) bp)
 go_upto_region 3 with (go_at_call 82;refine (dY _ eb _).mono ?_;rw[jn];rintro aQ w1⟨rfl,rfl⟩)
 clear aY bq a' b5;go_cut [15] (λz cj=>z=bR (fV aM ((l.bs.take i).map (·.aM)))/\Kept W cj)
 case first=>
  have eF:=I (show∀X,Kept W X->(Kept W X/\aU X (w,0)=some (ae (some (be,YG)) dS eW)/\aU X (w.heap.size+1,0)=some (.string aM))from λX h=>⟨h,(e3 _ h).cell 0,(eA _ h).cell 0⟩);have lw2:=(eA _ (aG _)).lt;have rZ:=I bp;obtain⟨-,z0,fL⟩:=eF.out W (aG _);go_region_held3 (λX=>Kept W X/\aU X (w,0)=some (ae (some (be,YG)) dS eW)/\aU X (w.heap.size+1,0)=some (.string aM))
   ((refine eF _ ?_;(with_reducible first|exact tJ|exact (aG _).drew)))
   ((go_at_call_of 83 (Value.slice (some (be,YG)) i eW);refine (cW _ (rZ.trans ?_)).mono ?_;(·exact (aG _).drew);rintro e eK⟨rfl,ck⟩;have tJ:Kept W eK:=(by (exact (aG _).drew.trans ck))))
  rename_i hHeld;clear hHeld;go_wp2_with fail
  go_meet;exact⟨by rw[E5],tJ⟩
 case rest=>
 obtain⟨rfl,au⟩:=hcut;generalize wc=w1 at*
 cases iX:fV aM ((l.bs.take i).map (·.aM))
 case true=>
  have az:=I (e' 7 (by decide) (λh=>by have:=h.zn;rw[pN,iX]at this;cases this));clear cW;go_wp2_with fail
  exact bI (v:=bj #[ah (7),()]) (by simp[results,results80,go_sem]) rfl (ob.mk az (by decide) (by decide) (bp.trans au))
 go_upto_region 5 with fail
 have ca:=bp.trans au;have d2:=(eA _ au).cell;have m2:=(eA _ au).lt;have mh:=I (λw2(h:Kept w1 w2)=>eA _ (au.trans h));clear cW;by_cases nJ:eE=0
 .have az:=I (e' 5 (by decide) (λh=>by have:=h.e2;rw[tD]at this;omega));subst nJ;go_wp2_with fail
  exact bI (v:=bj #[ah (5),()]) (by simp[results,results80,go_sem]) rfl (ob.mk az (by decide) (by decide) ca)
 have asl:((eE:J)==0)=false:=by simpa using nJ
 by_cases jL:16<eE
 .have aks:(16:J)<eE:=by omega
  have az:=I (e' 4 (by decide) (λh=>by have:=h.aD;rw[tD]at this;omega));clear nJ jL;go_wp2_with fail
  exact bI (v:=bj #[ah (4),ah (116)]) (by simp[results,results80,go_sem]) rfl (ob.mk az (by decide) (by decide) ca)
 have aks:¬((16:J)<eE):=by omega
 obtain⟨b,off,rfl,af,aq⟩:=HXM.out (by omega);have ct:=I aq;have mw:=bG af ca.size;have Mt:=I jL;have B9:=I nJ;clear aq jL nJ;go_wp2_with fail
 go_loopw [36] (λz wr=>∃j:aa,z=ah j/\j<=eE/\Kept w1 wr/\∀k m,k<j->x.mem[k]?=some m->nP (L m)=true/\fV m (x.mem.take k)=false) (λz _=>eE-(intOf z).toNat)
 case atStart=>exact⟨0,rfl,d' _,aG _,λ_ _ h=>absurd h (uo _)⟩
 case round=>
  obtain⟨j,rfl,hH,ax,l6⟩:=hrel;have cU:=I l6;clear l6;by_cases aN:j<eE
  .have hg:x.mem[j]?=some (x.mem[j]'(by rw[tD];exact aN)):=bn _;obtain⟨Ah,atW⟩:=ct.out j _ hg;generalize s6:x.mem[j]'(by rw[tD];exact aN)=m at*;have lW:=I hg;unfold g' at Ah;rw[jD]at Ah;have en:=ca.trans ax;replace Ah:=en.aI af Ah;have qG:=bG af en.size;have a_:=(mh _ ax).cell;have f2:=(mh _ ax).lt;have kT:(j:J)<eE:=by omega
   have M1:(j:J)<=ih:=by omega
   have atv:=I atW;have gi:=I en;clear hg s6 d2 m2 en atW
   cases Cv:nP (L m)
   case false=>
    have az:=I (e' 2 (by decide) (λh=>by have:=(h.mem j m lW).1;rw[Cv]at this;cases this));have hf: -9223372036854775808<=(100:J)+j:=by omega
    have Ws:=Mt.out;have mx:(100:J)+j<=9223372036854775807:=by omega
    clear Ws;go_wp2_with (go_at_call 82;refine (dY _ atv _).mono ?_;rw[Cv];rintro aQ ch⟨rfl,rfl⟩)
    exact bI (v:=bj #[ah (2),ah (100+j)]) (by simp[results,results80,go_sem]) rfl (ob.mk az hf mx gi)
   go_upto_region 14 with (go_at_call 82;refine (dY _ atv _).mono ?_;rw[Cv];rintro aQ ch⟨rfl,rfl⟩)
   have O9:=I (λeK(h:Kept w eK)=>cB j m (ui aN) eK h);clear cB
   cases p3:fV m (x.mem.take j)
   case true=>
    have az:=I (e' 7 (by decide) (λh=>by have:=(h.mem j m lW).2;rw[p3]at this;cases this));have Ws:=Mt.out;have hf: -9223372036854775808<=(100:J)+j:=by omega
    have mx:(100:J)+j<=9223372036854775807:=by omega
    clear Ws;rw[p3]at O9;go_wp2_with (go_at_call 104;refine (O9 _ gi).mono ?_;rintro aQ eK⟨rfl,ck⟩)
    exact bI (v:=bj #[ah (7),ah (100+j)]) (by simp[results,results80,go_sem]) rfl (ob.mk az hf mx (gi.trans ck))
   rw[p3]at O9;have nh:=I (show∀k m,k<j+1->x.mem[k]?=some m->nP (L m)=true/\fV m (x.mem.take k)=false from λk jY ai hm=>by
    rcases De.1 ai with h|rfl
    .exact cU k jY h hm
    .have he:=lW.symm.trans hm
     cases he;exact⟨Cv,p3⟩)
   clear Cv p3;go_wp2_with (go_at_call 104;refine (O9 _ gi).mono ?_;rintro aQ eK⟨rfl,ck⟩)
   go_roundw
   case rel=>exact⟨j+1,by go_num,aN,ax.trans ck,nh⟩
   case measure=>simp[intOf];omega
  .obtain rfl:j=eE:=by omega
   have kT:¬((j:J)<j):=by omega
   have az:=I (show Q from b1▸⟨by rw[pN];exact jn,by rw[pN];exact iX,by rw[tD];have:=B9.out;omega,by rw[tD];have:=Mt.out;omega,λk m hm=>cU k m (by rw[<-tD];exact (b2 hm).1) hm⟩);clear d2 m2;go_wp2_with fail
   exact bI (v:=bj #[(),()]) (by simp[results,results80,go_sem]) rfl (ob.mk (iff_of_true rfl az) (by decide) (by decide) (ca.trans ax))
def nR(q:Prop)(w:ag)(e:Ending)(w':ag):Prop:=∃c a b d:J,e=bL (aF #[c,a,b,d])/\(c=0↔q)/\(c=0->a=0/\b=0/\d=0)/\Kept w w'
def nR.no{q:Prop}{w w':ag}{c a b d:J}(h:c≠0)(az:¬q)(ai:Kept w w'):nR q w (bL (aF #[c,a,b,d])) w':=⟨c,a,b,d,rfl,iff_of_false h az,λe=>absurd e h,ai⟩
def nR.yes{q:Prop}{w w':ag}(az:q)(ai:Kept w w'):nR q w (bL (aF #[(),(),(),()])) w':=⟨0,0,0,0,rfl,iff_of_true rfl az,λ_=>⟨rfl,rfl,rfl⟩,ai⟩
def oU{w X:ag}{g T:aa}{a0 eS a2 a3:ak}(B:aB X g T #[a0,eS,a2,a3])(ai:Kept w X)(al:w<=g)(c a b d:ak):
  aB ((((X.setCell (g,0) c).setCell (g,1) a).setCell (g,2) b).setCell (g,3) d) g T #[c,a,b,d]/\Kept w ((((X.setCell (g,0) c).setCell (g,1) a).setCell (g,2) b).setCell (g,3) d):=by
 refine⟨?_,?_⟩
 .have:=(((B.ba 0 c).ba 1 a).ba 2 b).ba 3 d;simpa using this
 .repeat refine Kept.setCell ?_ (by simp only;omega) _
  exact ai
structure wP(bs:List pI):Prop where
 aD:bs.length<=8
 all:∀i x,bs[i]?=some x->Hu bs i x
def ahO(cm:ak)(l:cO)(w:ag)(bE:h1 w cm l):bg 50 #[cm] w (nR (wP l.bs) w):=by
 have rX:=I (λ(i:aa)(x:pI)(vy:ak)(w1:ag)(h:Kept w w1)(aD:l.bs[i]?=some x)(bk:xe w1 vy x.mem)(aO:x.aM.size<=140737488355328)=>ahN cm vy l i x w1 (bE.kept h) aD bk aO);unfold ob at rX;obtain⟨dw,cM,cH,rfl,ar,ab,ad⟩:=bE;obtain⟨c5,eW,rfl,hcE,hlE,Nr⟩:=id ar;obtain⟨cV,cX,rfl,-⟩:=id ab;obtain⟨hM,fJ,rfl,-⟩:=id ad;obtain⟨Q,cL⟩:∃Q,Q=wP l.bs:=⟨_,rfl⟩;rw[<-cL];have b1:=I cL;have e':=I (λ(h:¬wP l.bs)=>(show¬Q from λq=>h (b1▸q)));have HXE:=I Nr;generalize uX:l.bs.length=dS at*;generalize l.tb.length=dd at*;generalize l.sc.length=fO at*;have sJ:=I uX;clear ar ab ad Nr cL uX;go_enter func50,ntmps50
 go_upto_region 1 with fail
 generalize aL:(w.alloc _).alloc _=W at*;obtain⟨bp,bh,bm⟩:=Kept.a_ aL;clear aL;have e3:=I (λw1(h:Kept W w1)=>bh.kept h);have eA:=I (λw1(h:Kept W w1)=>bm.kept h);obtain⟨aY,bq⟩:=bh.p;clear bh bm;by_cases aH:8<dS
 .have ry:(8:J)<dS:=by omega
  have az:=I (e' λh=>by have:=h.aD;rw[sJ]at this;omega);have bW:=eA.out _ (aG _);obtain⟨a',b5,f2⟩:=bW.q;have cE:=I (oU bW bp (by omega) (ah 4) (ah 1) (ah 8) ());clear aH bW;go_wp2_with fail
  have e5:=cE.1.cell;exact bI (v:=aF #[ah 4,ah 1,ah 8,()]) (by simp[results,results50,go_sem,e5]) rfl (nR.no (by decide) az cE.2)
 have ry:¬((8:J)<dS):=by omega
 have b3:=I aH;clear aH;go_wp2_with fail
 clear aY bq;go_loopw [15] (λz wr=>∃j:aa,z=ah j/\j<=dS/\Kept W wr/\∀k x,k<j->l.bs[k]?=some x->Hu l.bs k x) (λz _=>dS-(intOf z).toNat)
 case atStart=>exact⟨0,rfl,d' _,aG _,λ_ _ h=>absurd h (uo _)⟩
 case round=>
  obtain⟨j,rfl,hH,ax,l6⟩:=hrel;have cU:=I l6;clear l6;by_cases aN:j<dS
  .have hg:l.bs[j]?=some (l.bs[j]'(by rw[sJ];exact aN)):=bn _;obtain⟨b,off,rfl,af,aq⟩:=HXE.out (by omega);obtain⟨⟨t0,ie⟩,⟨c1,t1,bN⟩⟩:=aq j _ hg;generalize s6:l.bs[j]'(by rw[sJ];exact aN)=x at*;have lW:=I hg;unfold g' at t0 t1;have en:=bp.trans ax;have tC:=I (bN.kept en);obtain⟨ff,ih,rfl,-⟩:=id bN;replace t0:=en.aI af t0;replace t1:=en.aI af t1;have qG:=bG af en.size;have kT:(j:J)<dS:=by omega
   have sH:=I (λw1(h:Kept wr w1)=>rX j x _ w1 (en.trans h) hg (tC.kept h) ie);have gi:=I en;have aQ:=(e3 _ ax).cell;have m1:=(e3 _ ax).lt;have xx:(j:J)+1<=9223372036854775807:=by have:=b3.out;omega
   generalize x.mem.length=eE at*;generalize as1:x.aM=aM at*;clear hg s6 bN aq en rX;go_upto_region 6 with fail
   have du:=I ((aG wr).alloc (.cells #[aM,ae ff eE ih] 92));have dq:=aB.new wr 92 #[aM,ae ff eE ih];have dm:=(e3 _ ax).alloc (.cells #[aM,ae ff eE ih] 92);have gs:w.heap.size+1<wr.heap.size:=(eA _ ax).lt;clear aQ m1 t0 t1;generalize wr.alloc (.cells #[aM,ae ff eE ih] 92)=V at*;generalize wr.heap.size=g3 at*;obtain⟨aQ,m1⟩:=dm.p;obtain⟨cv,m3⟩:=dq.p;clear dm dq;go_upto_region 7 with (go_at_call 80;refine (sH _ du).mono ?_;rintro h_ eK⟨c,d,rfl,nn,hf,mx,ck⟩;have kf:=I nn;clear nn)
   have eB:=I (du.trans ck);clear sH aQ m1 cv m3;by_cases hG:c=0
   .have h':=kf.1 hG;subst hG;have nh:=I (show∀k x,k<j+1->l.bs[k]?=some x->Hu l.bs k x from λk jO ai hm=>by
     rcases De.1 ai with h|rfl
     .exact cU k jO h hm
     .have he:=lW.symm.trans hm
      cases he;exact h')
    clear h' kf;go_wp2_with fail
    go_roundw
    case rel=>exact⟨j+1,by go_num,aN,ax.trans eB,nh⟩
    case measure=>simp[intOf];omega
   .have jv:(c !=0)=true:=by simpa using hG
    have az:=I (e' λh=>hG (kf.2 (h.all j x lW)));have HA:=I hG;have bW:=eA.out _ (ax.trans eB);obtain⟨a',b5,f2⟩:=bW.q;have cE:=I (oU bW (gi.trans eB) (by omega) c (ah 1) j d);clear hG bW kf;go_wp2_with fail
    have e5:=cE.1.cell;exact bI (v:=aF #[c,ah 1,j,d]) (by simp[results,results50,go_sem,e5]) rfl (nR.no HA az cE.2)
  .obtain rfl:j=dS:=by omega
   have kT:¬((j:J)<j):=by omega
   have az:=I (show Q from b1▸⟨by rw[sJ];have:=b3.out;omega,λk x hm=>cU k x (by rw[<-sJ];exact (b2 hm).1) hm⟩);have bW:=eA.out _ ax;obtain⟨a',b5,f2⟩:=bW.q;have cE:=I (oU bW (bp.trans ax) (by omega) () () () ());clear bW;go_wp2_with fail
   have e5:=cE.1.cell;exact bI (v:=aF #[(),(),(),()]) (by simp[results,results50,go_sem,e5]) rfl (nR.yes az cE.2)
end Go.Proofs.YtilhklpfkgbikaaGreatDoor
