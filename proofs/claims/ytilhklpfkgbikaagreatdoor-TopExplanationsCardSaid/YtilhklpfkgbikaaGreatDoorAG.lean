import Derived.Test.YtilhklpfkgbikaaGreatDoorAE
set_option linter.all false
namespace Go.Proofs.YtilhklpfkgbikaaGreatDoor
open Go.RowKit Go.Proofs.Tryz
set_option maxRecDepth 100000
set_option maxHeartbeats 16000000
structure r5(l:cO):Prop where
 aD:l.sc.length<=4
 all:∀i x,l.sc[i]?=some x->lA l i x
def ahR(cm:ak)(l:cO)(w:ag)(bE:h1 w cm l):bg 52 #[cm] w (nR (r5 l) w):=by
 have rX:=I (λ(i:aa)(x:cq)(w1:ag)(h:Kept w w1)(aD:l.sc[i]?=some x)=>ahQ cm l i x w1 (bE.kept h) aD);unfold ob at rX;obtain⟨dw,cM,cH,rfl,ar,ab,ad⟩:=bE;obtain⟨c5,eW,rfl,-⟩:=id ar;obtain⟨cV,cX,rfl,-⟩:=id ab;obtain⟨hM,fJ,rfl,-,Ro,-⟩:=id ad;obtain⟨Q,cL⟩:∃Q,Q=r5 l:=⟨_,rfl⟩;rw[<-cL];have b1:=I cL;have e':=I (λ(h:¬r5 l)=>(show¬Q from λq=>h (b1▸q)));generalize l.bs.length=dS at*;generalize l.tb.length=dd at*;generalize ot:l.sc.length=fO at*;have sJ:=I ot;clear ar ab ad cL ot;go_enter func52,ntmps52
 go_upto_region 1 with fail
 generalize aL:(w.alloc _).alloc _=W at*;obtain⟨bp,bh,bm⟩:=Kept.a_ aL;clear aL;have e3:=I (λw1(h:Kept W w1)=>bh.kept h);have eA:=I (λw1(h:Kept W w1)=>bm.kept h);obtain⟨aY,bq⟩:=bh.p;clear bh bm;by_cases aH:4<fO
 .have ry:(4:J)<fO:=by omega
  have az:=I (e' λh=>by have:=h.aD;rw[sJ]at this;omega);have bW:=eA.out _ (aG _);obtain⟨a',b5,f2⟩:=bW.q;have cE:=I (oU bW bp (by omega) (ah 4) (ah 3) (ah 4) ());clear aH bW;go_wp2_with fail
  have e5:=cE.1.cell;exact bI (v:=aF #[ah 4,ah 3,ah 4,()]) (by simp[results,results52,go_sem,e5]) rfl (nR.no (by decide) az cE.2)
 have ry:¬((4:J)<fO):=by omega
 have b3:=I aH;clear aH;go_wp2_with fail
 clear aY bq;go_loopw [14] (λz wr=>∃j:aa,z=ah j/\j<=fO/\Kept W wr/\∀k x,k<j->l.sc[k]?=some x->lA l k x) (λz _=>fO-(intOf z).toNat)
 case atStart=>exact⟨0,rfl,d' _,aG _,λ_ _ h=>absurd h (uo _)⟩
 case round=>
  obtain⟨j,rfl,hH,ax,l6⟩:=hrel;have cU:=I l6;clear l6;by_cases aN:j<fO
  .have hg:l.sc[j]?=some (l.sc[j]'(by rw[sJ];exact aN)):=bn _;generalize s6:l.sc[j]'(by rw[sJ];exact aN)=x at*;have lW:=I hg;have en:=bp.trans ax;have kT:(j:J)<fO:=by omega
   have sH:=I (λw1(h:Kept wr w1)=>rX j x w1 (en.trans h) hg);have gi:=I en;have aQ:=(e3 _ ax).cell;have m1:=(e3 _ ax).lt;have xx:(j:J)+1<=9223372036854775807:=by have:=b3.out;omega
   clear hg s6 en rX;go_upto_region 7 with (go_at_call 85;refine (sH _ (aG _)).mono ?_;rintro h_ eK⟨c,d,rfl,nn,hf,mx,ck⟩;have kf:=I nn;clear nn)
   have eB:=I (ck);clear sH aQ m1;by_cases hG:c=0
   .have h':=kf.1 hG;subst hG;have nh:=I (show∀k x,k<j+1->l.sc[k]?=some x->lA l k x from λk jO ai hm=>by
     rcases De.1 ai with h|rfl
     .exact cU k jO h hm
     .have he:=lW.symm.trans hm
      cases he;exact h')
    clear h' kf;go_wp2_with fail
    go_roundw
    case rel=>exact⟨j+1,by go_num,aN,ax.trans eB,nh⟩
    case measure=>simp[intOf];omega
   .have jv:(c !=0)=true:=by simpa using hG
    have az:=I (e' λh=>hG (kf.2 (h.all j x lW)));have HA:=I hG;have bW:=eA.out _ (ax.trans eB);obtain⟨a',b5,f2⟩:=bW.q;have cE:=I (oU bW (gi.trans eB) (by omega) c (ah 3) j d);clear hG bW kf;go_wp2_with fail
    have e5:=cE.1.cell;exact bI (v:=aF #[c,ah 3,j,d]) (by simp[results,results52,go_sem,e5]) rfl (nR.no HA az cE.2)
  .obtain rfl:j=fO:=by omega
   have kT:¬((j:J)<j):=by omega
   have az:=I (show Q from b1▸⟨by rw[sJ];have:=b3.out;omega,λk x hm=>cU k x (by rw[<-sJ];exact (b2 hm).1) hm⟩);have bW:=eA.out _ ax;obtain⟨a',b5,f2⟩:=bW.q;have cE:=I (oU bW (bp.trans ax) (by omega) () () () ());clear bW;go_wp2_with fail
   have e5:=cE.1.cell;exact bI (v:=aF #[(),(),(),()]) (by simp[results,results52,go_sem,e5]) rfl (nR.yes az cE.2)
def YD{α:Type}{f:α->ez}{l:List α}(h:∀(j:aa)t,l[j]?=some t->fV (f t) ((l.take j).map f)=false):∀(i j:aa)(s t:α),l[i]?=some s->l[j]?=some t->f s=f t->i=j:=by
 have key:∀(i j:aa)(s t:α),i<j->l[i]?=some s->l[j]?=some t->f s=f t->False:=λi j s t hij aO cr e=>by
  have ab:=h j t cr;have ad:fV (f t) ((l.take j).map f)=true:=GX.2 (o3.2 ⟨s,fe (i:=i) (by rw[Tl,aP hij];exact aO),e⟩);rw[ab]at ad
  cases ad
 intro i j s t aO cr e;rcases Kc i j with ab|ab|ab
 .exact (key i j s t ab aO cr e).elim
 .exact ab
 .exact (key j i t s ab cr aO e.symm).elim
def r5.e1{l:cO}(h:r5 l):∀(i j:aa)(s t:cq),l.sc[i]?=some s->l.sc[j]?=some t->s.aM=t.aM->i=j:=
 YD (f:=λs:cq=>s.aM) (λj t cr=>(h.all j t cr).zn)
def lA.di{l:cO}{i:aa}{s:cq}(h:lA l i s):∀(i j:aa)(p q:br),s.rs[i]?=some p->s.rs[j]?=some q->p.aM=q.aM->i=j:=
 YD (f:=λr:br=>r.aM) (λj t cr=>(h.rs j t cr).zn)
def lA.ek{l:cO}{i:aa}{s:cq}(h:lA l i s):∀(i j:aa)(f g:mI),s.ds[i]?=some f->s.ds[j]?=some g->f.aM=g.aM->i=j:=
 YD (f:=λr:mI=>r.aM) (λj t cr=>by
  have:=(h.ds j t cr).2.2.1;rw[<-GX]at this;simpa using this)
def lA.rd{l:cO}{i:aa}{s:cq}(h:lA l i s):∀r∈s.rs,0<=r.bx/\r.bx<s.ds.length:=λr hm=>by
 obtain⟨j,ay⟩:=mc hm;exact (h.rs j r ay).bx
def r5.ms{l:cO}(h:r5 l){i:aa}{s:cq}(aO:l.sc[i]?=some s):s.ms= -1\/(0<=s.ms/\s.ms<l.sc.length):=by
 have aD:=(b2 aO).1;rcases (h.all i s aO).ms with ab|⟨ab,ad,-⟩
 .exact .inl ab
 .exact .inr ⟨ab,by omega⟩
def lA.sp{l:cO}{i:aa}{s:cq}(h:lA l i s):pQ s:=by
 refine⟨⟨h.di,λj r ay=> ?_⟩,λd aC=> ?_⟩
 .rcases (h.rs j r ay).bJ with ab|⟨ab,ad,ao⟩
  .exact .inl ab
  .have aN:r.bJ.toNat<s.rs.length:=by have:=(b2 ay).1;omega
   exact .inr ⟨ab,ad,_,bn aN,ao _ (bn aN)⟩
 .have aE:=aC.CB (Aj s.ds s.rs);have ab:=h.ac d.toNat (by omega);rw[E2 aE.1]at ab;have ad:=(CK (rs:=s.rs) aE).2 aC;rw[<-List.contains_iff_mem,ab]at ad
  cases ad
def lA.nb{l:cO}{i:aa}{s:cq}(h:lA l i s):∀r∈s.rs,r.aM≠kD:=λr hm e=>by
 obtain⟨j,ay⟩:=mc hm;have ab:=(h.rs j r ay).id;rw[e]at ab;revert ab;decide
def Zr{s:kj}:∀(xs:List cw)(st:List dh),(xS s xs st).2=0->∀x∈xs,∃bA,(mC s x.o x.n bA).2=0:=by
 intro xs;induction xs with
 |nil=>intro _ _ x aj;cases aj
 |cons y r bO=>
  intro st h x aj;rw[xS]at h;split at h
  .cases h
  .split at h
   .rename_i ab;exact absurd h ab
   .rename_i ab;rcases fM.1 aj with rfl|aj
    .exact⟨_,by simpa using ab⟩
    .exact bO _ h x aj
def amG{s:kj}{o n:J}{bA:List dh}(aA:36<=o/\o<=39)(h:(mC s o n bA).2=0):s.hm=true/\0<=n/\n<s.md.length:=by
 unfold mC at h;rw[aw (by omega),aw (by omega),aw (by omega),aw (by omega),aw (by omega),aw (by omega),aP (by omega)]at h;unfold GV at h
 cases hm:s.hm with
 |false=>rw[hm]at h;cases h
 |true=>
  rw[hm,aw (by decide),aw (by omega)]at h;by_cases ad:(qS s.ms n s.md).2≠0
  .rw[aP ad]at h;exact absurd h ad
  .have ao:(qS s.ms n s.md).2=0:=by simpa using ad
   unfold qS at ao;by_cases aR:n<0\/(s.md:J)<=n
   .rw[aP aR]at ao
    cases ao
   .exact⟨rfl,by omega,by omega⟩
def Zz{l:cO}{s:cq}{xs:List cw}{t:dh}(h:nT (qa l s) xs=(t,0)):∀e∈ic xs,0<=s.ms/\0<=e/\e<(bl l s).ds.length:=λe he=>by
 unfold ic at he;obtain⟨x,aj,rfl⟩:=o3.1 he;rw[uq]at aj;have aA:36<=x.o/\x.o<=39:=by simpa using aj.2
 unfold nT at h;split at h
 .rename_i ab;exact absurd (congrArg Prod.snd h) ab
 .obtain⟨bA,jw⟩:=Zr _ _ (congrArg Prod.snd h) x aj.1;obtain⟨ab,ad,ao⟩:=amG aA jw;have aR:0<=s.ms/\s.ms<l.sc.length:=by simpa[qa] using ab
  refine⟨aR.1,ad,?_⟩;unfold qa at ao;dsimp only at ao;rw[aP aR,er]at ao;exact ao
def r5.NF{l:cO}(h:r5 l):UL l:=by
 refine⟨h.e1,λs hm=> ?_⟩;obtain⟨i,aD⟩:=mc hm;have H:=h.all i s aD;refine⟨H.sp,H.ek,H.rd,H.nb,h.ms aD,λr aC e he=> ?_⟩;obtain⟨j,ay⟩:=mc aC;have R:=H.rs j r ay;rcases he with he|he
 .by_cases al:0<r.g.length
  .exact Zz (R.DU al) e he
  .have:r.g=[]:=oC.1 (by omega);rw[this]at he
   cases he
 .have Gk:=R.bx;have aN:r.bx.toNat<s.ds.length:=by omega
  exact Zz (R.hv _ (bn aN)) e he
structure lx(l:cO):Prop where
 bs:wP l.bs
 tb:FF l.bs l.tb
 sc:r5 l
def alU(cm:ak)(l:cO)(w:ag)(bE:h1 w cm l):bg 29 #[cm] w (nR (lx l) w):=by
 have cW:=I (λw1(h:Kept w w1)=>ahO cm l w1 (bE.kept h));have c8:=I (λw1(h:Kept w w1)=>ahS cm l w1 (bE.kept h));have eb:=I (λw1(h:Kept w w1)=>ahR cm l w1 (bE.kept h));unfold nR at cW c8 eb;obtain⟨dw,cM,cH,rfl,ar,ab,ad⟩:=bE;obtain⟨c5,eW,rfl,-⟩:=id ar;obtain⟨cV,cX,rfl,-⟩:=id ab;obtain⟨hM,fJ,rfl,-⟩:=id ad;obtain⟨Q,cL⟩:∃Q,Q=lx l:=⟨_,rfl⟩;rw[<-cL];have b1:=I cL;have H1:=I (show Q->wP l.bs from λq=>(b1▸q:lx l).bs);have vL:=I (show Q->FF l.bs l.tb from λq=>(b1▸q:lx l).tb);have pJ:=I (show Q->r5 l from λq=>(b1▸q:lx l).sc);have q8:=I (show wP l.bs->FF l.bs l.tb->r5 l->Q from λa b c=>b1▸⟨a,b,c⟩);generalize wP l.bs=bd at*;generalize FF l.bs l.tb=a8 at*;generalize r5 l=dI at*;generalize l.bs.length=dS at*;generalize l.tb.length=dd at*;generalize l.sc.length=fO at*;clear ar ab ad cL;go_enter func29,ntmps29
 go_upto_region 1 with fail
 generalize aL:(w.alloc _).alloc _=W at*;obtain⟨bp,bh,bm⟩:=Kept.a_ aL;clear aL;have e3:=I (λw1(h:Kept W w1)=>bh.kept h);have eA:=I (λw1(h:Kept W w1)=>bm.kept h);obtain⟨aY,bq⟩:=bh.p;clear bh bm;go_upto_region 2 with (go_at_call 50;refine (cW _ bp).mono ?_;rintro aQ w1⟨c,a,b,d,rfl,az,-,au⟩;have sL:=I az;clear az)
 generalize aL:w1.alloc _=V at*;obtain⟨hz,cP⟩:=Kept.aQ aL;clear aL;have fi:=au.trans hz;clear hz;obtain⟨bu,dW⟩:=cP.p;clear aY bq cP;by_cases aq:c=0
 case neg=>
  have jv:(c !=0)=true:=by simpa using aq
  have az:=I (show¬Q from λq=>aq (sL.2 (H1 q)));have ct:=I aq;have bW:=eA.out _ fi;obtain⟨a',b5,f2⟩:=bW.q;have cE:=I (oU bW (bp.trans fi) (by omega) c a b d);clear aq bW sL;go_wp2_with fail
  have e5:=cE.1.cell;exact bI (v:=aF #[c,a,b,d]) (by simp[results,results29,go_sem,e5]) rfl (nR.no ct az cE.2)
 have jn:=I (sL.1 aq);subst aq;clear sL;have aY:=(e3 _ fi).cell;have bq:=(e3 _ fi).lt;go_upto_region 5 with (go_at_call 51;refine (c8 _ (bp.trans fi)).mono ?_;rintro a_ w2⟨c,fI,j7,fp,rfl,az,-,bt⟩;have Bp:=I az;clear az)
 generalize aL:w2.alloc _=X at*;obtain⟨hz,fH⟩:=Kept.aQ aL;clear aL;have fb:=(fi.trans bt).trans hz;clear hz;obtain⟨b4,gz⟩:=fH.p;clear aY bq bu dW fH;by_cases aq:c=0
 case neg=>
  have jv:(c !=0)=true:=by simpa using aq
  have az:=I (show¬Q from λq=>aq (Bp.2 (vL q)));have ct:=I aq;have bW:=eA.out _ fb;obtain⟨a',b5,f2⟩:=bW.q;have cE:=I (oU bW (bp.trans fb) (by omega) c fI j7 fp);clear aq bW Bp;go_wp2_with fail
  have e5:=cE.1.cell;exact bI (v:=aF #[c,fI,j7,fp]) (by simp[results,results29,go_sem,e5]) rfl (nR.no ct az cE.2)
 have iX:=I (Bp.1 aq);subst aq;clear Bp;have aY:=(e3 _ fb).cell;have bq:=(e3 _ fb).lt;go_wp2_with (go_at_call 52;refine (eb _ (bp.trans fb)).mono ?_;rintro cv ch⟨b_,a5,fm,d5,rfl,az,bP,bF⟩;have uE:=I (bb az bP);clear az bP;have bW:=eA.out _ (fb.trans bF);have b5:=bW.lt;have f2:=bW.frozen;have a':=bW.cell;have cE:=I (oU bW (bp.trans (fb.trans bF)) (by omega) b_ a5 fm d5);clear bW)
 have e5:=cE.1.cell;exact bI (v:=aF #[b_,a5,fm,d5]) (by simp[results,results29,go_sem,e5]) rfl ⟨b_,a5,fm,d5,rfl,⟨λh=>q8 jn iX (uE.1.1 h),λq=>uE.1.2 (pJ q)⟩,uE.2,cE.2⟩
def Ob{Lf:gD}{E:dT}{A:List br}{d q:J}{v:bC}(h:fW Lf E A d=(v,q,0,0)):∃(k:aa)(r:br),q=k/\A[k]?=some r/\bz d E.dt r=true:=by
 unfold fW at h;split at h
 .simp only[q1]at h;rename_i aT;exact absurd h.2.2.1 aT
 rename_i ar;split at h
 .simp at h
 rename_i ab;split at h
 .simp at h
 rename_i ad;split at h
 .simp only[q1]at h;rename_i aT;exact absurd h.2.2.1 aT
 simp only[q1,kN]at h;obtain⟨-,az⟩:=h;have R:=tm (bz d E.dt) A;unfold e0 at ar ab ad az;split at ar
 .rename_i aT;exact absurd aT ar
 rename_i g0;rw[aw g0]at ab ad az;have tW:=SN (par:=(b8 (bz d E.dt) A).2) (pri:=gG A (b8 (bz d E.dt) A).1) (apl:=(fw Lf E A (b8 (bz d E.dt) A).1 []).1);have aN:=G4 (par:=(b8 (bz d E.dt) A).2) (pri:=gG A (b8 (bz d E.dt) A).1) (apl:=(fw Lf E A (b8 (bz d E.dt) A).1 []).1);generalize kz (b8 (bz d E.dt) A).2 (gG A (b8 (bz d E.dt) A).1) (fw Lf E A (b8 (bz d E.dt) A).1 []).1=k at*;by_cases g1:k<0
 .rw[aP g1]at ab ad;simp only at ab ad;omega
 rw[aw g1]at az;have ai:k.toNat<(b8 (bz d E.dt) A).1.length:=by
  rw[R.mX,<-R.pl];have:=aN (by omega);omega
 have al:=bn ai;obtain⟨-,-,r,aQ,a_⟩:=R.sq _ _ al;rw[al,b9]at az;exact⟨_,r,az.symm,aQ,a_⟩
def p'(x:cw):Option (J×J):=if x.o=7 then some (0,x.n)else if x.o=8 then some (1,x.n)else if x.o=9 then some (2,0)else if x.o=33 then some (3,x.n)else if x.o=34 then some (3,x.n.tdiv 8)else if 36<=x.o/\x.o<=39 then some (4,x.n)else none
def hl(l:List (J×J)):Option (J×J)->List (J×J)
 |none=>l
 |some r=>if r∈l then l else l++[r]
def mo(l:List (J×J))(x:cw):List (J×J):=hl l (p' x)
def tL(l:List (J×J))(r:br):List (J×J):=r.v.foldl mo (r.g.foldl mo l)
def amF{l:List (J×J)}{x:cw}{z:J×J}:z∈mo l x↔z∈l\/p' x=some z:=by
 unfold mo
 cases p' x with
 |none=>simp[hl]
 |some r=>
  show z∈(if r∈l then l else l++[r])↔_;by_cases h:r∈l
  .rw[aP h];constructor
   .exact .inl
   .rintro (aT|aT)
    .exact aT
    .cases aT;exact h
  .rw[aw h,k5,kb];simp only[vF];constructor
   .rintro (aT|aT)
    .exact .inl aT
    .exact .inr aT.symm
   .rintro (aT|aT)
    .exact .inl aT
    .exact .inr aT.symm
theorem Yu{z:J×J}:∀(xs:List cw)(l:List (J×J)),z∈xs.foldl mo l↔z∈l\/∃x∈xs,p' x=some z
 |[],l=>by simp
 |x::xs,l=>by
  rw[x6,Yu xs,amF];simp only[fM,exists_eq_or_imp,or_assoc]
def JG{l:List (J×J)}{r:br}{z:J×J}:z∈tL l r↔z∈l\/∃x,(x∈r.g\/x∈r.v)/\p' x=some z:=by
 unfold tL;rw[Yu,Yu];constructor
 .rintro ((h|⟨x,ab,ad⟩)|⟨x,ab,ad⟩)
  .exact .inl h
  .exact .inr ⟨x,.inl ab,ad⟩
  .exact .inr ⟨x,.inr ab,ad⟩
 .rintro (h|⟨x,ab|ab,ad⟩)
  .exact .inl (.inl h)
  .exact .inl (.inr ⟨x,ab,ad⟩)
  .exact .inr ⟨x,ab,ad⟩
theorem NL{α:Type}{g:α->br}{z:J×J}:∀(vc:List α)(l:List (J×J)),z∈vc.foldl (λacc j=>tL acc (g j)) l↔z∈l\/∃j∈vc,∃x,(x∈(g j).g\/x∈(g j).v)/\p' x=some z
 |[],l=>by simp
 |j::vc,l=>by
  rw[x6,NL vc,JG];simp only[fM,exists_eq_or_imp,or_assoc]
def afd{l:cO}{s:cq}{xs:List cw}{t:dh}(h:nT (qa l s) xs=(t,0)){x:cw}(aj:x∈xs):(x.o=7->0<=x.n/\x.n<s.ins.length)/\(x.o=8->0<=x.n/\x.n<s.ds.length)/\(x.o=33->0<=x.n)/\(x.o=34->0<=x.n)/\(36<=x.o->x.o<=39->0<=s.ms/\0<=x.n/\x.n<(bl l s).ds.length):=by
 refine⟨?_,?_,?_,?_,λab ad=>Zz h _ (Sb aj ab ad)⟩
 all_goals
  intro aA;unfold nT at h;split at h
  .rename_i ab;exact absurd (congrArg Prod.snd h) ab
  obtain⟨bA,jw⟩:=Zr _ _ (congrArg Prod.snd h) x aj;unfold mC at jw
 .rw[aw (by omega),aw (by omega),aP aA]at jw;unfold qS at jw;split at jw
  .cases jw
  .rename_i aR;simp only[qa,er]at aR;omega
 .rw[aw (by omega),aw (by omega),aw (by omega),aP aA]at jw;unfold qS at jw;split at jw
  .cases jw
  .rename_i aR;simp only[qa,er]at aR;omega
 .rw[aw (by omega),aw (by omega),aw (by omega),aw (by omega),aw (by omega),aP (by omega)]at jw;by_cases bw:x.n<0
  .unfold C2 at jw;rw[aw (λaT=>by omega),aP (.inl (by rw[aw (by omega)];exact bw))]at jw
   cases jw
  .omega
 .rw[aw (by omega),aw (by omega),aw (by omega),aw (by omega),aw (by omega),aP (by omega)]at jw;by_cases bw:x.n<0
  .unfold C2 at jw;rw[aP ⟨aA,.inl bw⟩]at jw
   cases jw
  .omega
def th(c:gl)(j:J):gl:=⟨c.d,c.mem[j.toNat]?.getD [],[]⟩
noncomputable def iE(l:cO)(s:cq)(c:gl)(m d:J):Lo:=if m<0 then mL cz l s c d else mL cz l (bl l s) (th c m) d
noncomputable def jy(l:cO)(s:cq)(c:gl)(m d:J):List (J×J):=
 if m<0 then tL [] (s.rs[(iE l s c m d).cf.toNat]?.getD jz)else (List.range c.mem).foldl (λacc(j:aa)=>tL acc ((bl l s).rs[(iE l s c (j:J) d).cf.toNat]?.getD jz)) []
noncomputable def yR(l:cO)(s:cq)(c:gl):q2:=⟨jy l s c,λm d=>(iE l s c m d).v,λm d=>(iE l s c m d).cf,λm i=>(if m<0 then c.ins else c.mem[m.toNat]?.getD [])[i.toNat]?.getD v0,c.d,c.mem.length⟩
def Hy(l:cO)(s:cq)(c:gl)(d0 m d:J):Prop:=(m= -1/\n9 s.ds s.rs d0 d)\/(0<=m/\m<c.mem.length/\0<=d/\d<(bl l s).ds.length/\gS (fv s (bl l s) d0) d=true)
def na(l:cO)(s:cq)(m d:J):aa:=if m<0 then (bl l s).ds.length+1+(ox (gV s.ds s.rs)).idxOf d else (ox (gV (bl l s).ds.length (bl l s).rs)).idxOf d
def acS{n:aa}{rs:List br}{o:aW}(h:Ll n rs o)(bD:∀d:J,0<=d->d<n->d∈o){d e:J}(aE:0<=d/\d<n)(he:rV n rs d e):o.idxOf e<o.idxOf d:=by
 have hm:=bD d aE.1 aE.2;have aD:=ZN hm;have RM:o=o.take (o.idxOf d)++d::o.drop (o.idxOf d+1):=by
  have ab:=(Th (o.idxOf d) o).symm;rw[jA aD]at ab;rw[List.getElem_idxOf aD]at ab;exact ab
 have hep:=h.dep _ _ _ RM e he;have:=ZN hep;rw[gT]at this;have ad:o.idxOf e=(o.take (o.idxOf d)).idxOf e:=by
  conv=>lhs;rw[RM]
  rw[List.idxOf_append,aP hep]
 omega
structure kd(l:cO)(i:aa)(s:cq)(c:gl)(d0:J):Prop where
 ok:lx l
 at_:l.sc[i]?=some s
 rg:0<=d0/\d0<s.ds.length
 dw:(mL cz l s c d0).c=0
section
variable {l:cO} {i:aa} {s:cq} {c:gl} {d0:J}
def kd.mem(h:kd l i s c d0):s∈l.sc:=fe h.at_
def kd.sp(h:kd l i s c d0):pQ s:=(h.ok.sc.all i s h.at_).sp
def kd.rd(h:kd l i s c d0):∀r∈s.rs,0<=r.bx:=λr aC=>((h.ok.sc.all i s h.at_).rd r aC).1
def kd.wy(h:kd l i s c d0):pQ (bl l s):=(h.ok.sc.NF.bl h.mem).1
def kd.zi(h:kd l i s c d0){d:J}(aE:0<=d/\d<s.ds.length):h8 (bl l s).ds.length (j9 s.ds s.rs d):=(h.ok.sc.NF.bl h.mem).2.2 d aE
def kd.JF(h:kd l i s c d0)(ar:0<(bl l s).ds.length):0<=s.ms/\l.sc[s.ms.toNat]?=some (bl l s)/\(bl l s).ms= -1:=by
 by_cases ab:0<=s.ms
 .rcases (h.ok.sc.all i s h.at_).ms with ad|⟨_,ad,ao⟩
  .omega
  .have aN:s.ms.toNat<l.sc.length:=by
    have:=(b2 h.at_).1;omega
   have al:=bn aN;have he:bl l s=l.sc[s.ms.toNat]:=by
    unfold bl;rw[aP ab,al,b9]
   rw[he];exact⟨ab,al,ao _ al⟩
 .have he:bl l s=j':=by unfold bl;rw[aw ab]
  rw[he]at ar;exact absurd ar (by simp[j'])
def kd.own(h:kd l i s c d0){d:J}(aE:n9 s.ds s.rs d0 d):∃(v:bC)(q:aa)(r:br),iE l s c (-1) d=⟨v,q,0,0,0,0⟩/\s.rs[q]?=some r/\r.bx=d/\
  (qT cz l c (bl l s) s (gM s.ds s.rs d0) (fv s (bl l s) d0)).bY[d.toNat]?=some v/\(qT cz l c (bl l s) s (gM s.ds s.rs d0) (fv s (bl l s) d0)).us[d.toNat]?=some (q:J):=by
 have aC:=aE.rg h.rg;obtain⟨dM,dQ,j,q,fP,kW,zr,NY⟩:=abJ (Lf:=cz) (l':=l) (s':=s) (c:=c) (d:=d0) (e:=d) h.rd rfl h.sp h.sp h.wy h.wy rfl rfl (ki.same h.sp.rs) (ki.same h.wy.rs) aC (h.zi aC) h.dw
  (λx bX bQ aj=>⟨(wG h.rg bX).2 (aE.trans h.rg ((wG aC bX).1 aj)),λq az=>by
   obtain⟨-,-,kY⟩:=EK h.sp ((BX.1.1 h.dw).2);obtain⟨v,k,aQ,a_,cv⟩:=kY x bX bQ ((wG h.rg bX).2 (aE.trans h.rg ((wG aC bX).1 aj)));obtain⟨nQ,r,f1,-,-⟩:=Ob cv;obtain rfl:=cJ (az.symm.trans a_);exact⟨by omega,trivial⟩⟩)
  (λf f0 f1 bV=>by
   have hm:gS (fv s (bl l s) d0) f=true:=by
    obtain⟨e,he,ad⟩:=(AL (h.zi aC) f0).1 bV;refine (AL (h.zi h.rg) f0).2 ⟨e,?_,ad⟩;obtain⟨r,hh,iC,kY,sr⟩:=(NM aC).1 he;exact (NM h.rg).2 ⟨r,hh,iC,aE.trans h.rg kY,sr⟩
   refine⟨hm,λbY lJ q az=> ?_⟩;obtain⟨-,-,kY⟩:=EK h.wy ((BX.1.1 h.dw).1 bY lJ);obtain⟨v,k,aQ,a_,cv⟩:=kY f f0 f1 hm;obtain⟨nQ,r,f1,-,-⟩:=Ob cv;obtain rfl:=cJ (az.symm.trans a_);exact⟨by omega,trivial⟩)
 obtain rfl:j=q:=zr;obtain⟨-,-,kY⟩:=EK h.sp ((BX.1.1 h.dw).2);obtain⟨v,k,aQ,a_,cv⟩:=kY d aC.1 aC.2 ((wG h.rg aC.1).2 aE);obtain⟨nQ,r,f1,f2,f3⟩:=Ob cv;have ai:k=(j:J):=cJ (a_.symm.trans kW);have M6:nQ=j:=by omega
 subst M6;have XS:iE l s c (-1) d=mL cz l s c d:=by unfold iE;rw[aP (by decide)]
 refine⟨v,nQ,r,?_,f2,xF f3,aQ,kW⟩;rw[XS];have bw:=BX.2 dM;rw[bw]at dQ fP;rw[bw];have sW:(qT cz l c (bl l s) s (gM s.ds s.rs d0) (fv s (bl l s) d0)).bY[d.toNat]?=some v:=aQ;rw[sW,b9]at dQ;dsimp only at dQ fP;rw[dQ,fP]
def kd.t'(h:kd l i s c d0){bY:List bC}{m:J}(ar:0<=m)(lJ:c.mem[m.toNat]?=some bY){d:J}(kF:0<=d)(hf:d<(bl l s).ds.length)(aE:gS (fv s (bl l s) d0) d=true):
  ∃(v:bC)(q:aa)(r:br),iE l s c m d=⟨v,q,0,0,0,0⟩/\(bl l s).rs[q]?=some r/\r.bx=d/\
   (xH cz l c (bl l s) (fv s (bl l s) d0) bY).bY[d.toNat]?=some v/\(xH cz l c (bl l s) (fv s (bl l s) d0) bY).us[d.toNat]?=some (q:J):=by
 obtain⟨sh,dK,jW⟩:=h.JF (by omega);have a6:=(BX.1.1 h.dw).1 bY (fe lJ);have ak4:bl l (bl l s)=j':=by
  generalize bl l s=t at*;unfold bl;rw[aw (show¬0<=t.ms by omega)]
 obtain⟨hh,iC,kY⟩:=EK h.wy a6;obtain⟨v,k,aQ,a_,cv⟩:=kY d kF hf aE;obtain⟨nQ,r,f1,f2,f3⟩:=Ob cv;subst f1;have a1:r7 l j' (th c m) ([]:List (List bC))=kV l.tb c.d bY:=by
  unfold r7 th kV;rw[lJ,b9];rfl
 have acC:=Y7 (Lf:=cz) (E:=kV l.tb c.d bY) (E':=kV l.tb c.d bY) (s:=bl l s) (s':=bl l s) (nb:=fv s (bl l s) d0) (nb':=gM (bl l s).ds.length (bl l s).rs d) h.wy h.wy rfl (ki.same h.wy.rs) a6 rfl rfl rfl rfl rfl
  (λx y bX bQ aj sf=>afn ⟨kF,hf⟩ x y bX bQ aj sf)
  (λx bX bQ aj=>by
   have eX:gS (fv s (bl l s) d0) x=true:=by
    obtain⟨e,he,ad⟩:=(AL (h.zi h.rg) kF).1 aE;exact (AL (h.zi h.rg) bX).2 ⟨e,he,ad.trans (h.zi h.rg e he) ((wG ⟨kF,hf⟩ bX).1 aj)⟩
   refine⟨eX,λq az=> ?_⟩;obtain⟨v',bt,g1,g2,g3⟩:=kY x bX bQ eX;obtain⟨bF,lo,w1,-,-⟩:=Ob g3;obtain rfl:=cJ (az.symm.trans g2);exact⟨by omega,trivial⟩)
  (λi r _ _ _ f _ _ j M FB ab _=>by simp[kV]at ab)
 have bU:gS (gM (bl l s).ds.length (bl l s).rs d) d=true:=(wG ⟨kF,hf⟩ kF).2 (.inl rfl);obtain⟨w1,j,q,w2,ch,eK,-⟩:=acC.2 d kF hf bU;obtain rfl:j=q:=eK;have W_:(nQ:J)=(j:J):=cJ (a_.symm.trans ch);have M6:nQ=j:=by omega
 subst M6;have XS:iE l s c m d=mL cz l (bl l s) (th c m) d:=by unfold iE;rw[aw (by omega)]
 have hoR:qT cz l (th c m) (bl l (bl l s)) (bl l s) (gM (bl l s).ds.length (bl l s).rs d) (fv (bl l s) (bl l (bl l s)) d)=gL cz (kV l.tb c.d bY) (bl l s) (gM (bl l s).ds.length (bl l s).rs d):=by
  unfold qT;rw[ak4];show gL cz (r7 l j' (th c m) []) (bl l s) _=_;rw[a1]
 have hG:(mL cz l (bl l s) (th c m) d).c=0:=BX.1.2 ⟨λZD XR=>(by cases XR),by rw[hoR];exact acC.1⟩;refine⟨v,nQ,r,?_,f2,xF f3,aQ,a_⟩;rw[XS,BX.2 hG,hoR,w1,w2,aQ,b9,b9]
def SK{x:cw}{z:J×J}(h:p' x=some z):(x.o=7/\z=(0,x.n))\/(x.o=8/\z=(1,x.n))\/(x.o=9/\z=(2,0))\/(x.o=33/\z=(3,x.n))\/(x.o=34/\z=(3,x.n.tdiv 8))\/((36<=x.o/\x.o<=39)/\z=(4,x.n)):=by
 unfold p' at h;by_cases ab:x.o=7
 .rw[aP ab]at h;exact .inl ⟨ab,(cJ h).symm⟩
 rw[aw ab]at h;by_cases ad:x.o=8
 .rw[aP ad]at h;exact .inr (.inl ⟨ad,(cJ h).symm⟩)
 rw[aw ad]at h;by_cases ao:x.o=9
 .rw[aP ao]at h;exact .inr (.inr (.inl ⟨ao,(cJ h).symm⟩))
 rw[aw ao]at h;by_cases aR:x.o=33
 .rw[aP aR]at h;exact .inr (.inr (.inr (.inl ⟨aR,(cJ h).symm⟩)))
 rw[aw aR]at h;by_cases bw:x.o=34
 .rw[aP bw]at h;exact .inr (.inr (.inr (.inr (.inl ⟨bw,(cJ h).symm⟩))))
 rw[aw bw]at h;by_cases eL:36<=x.o/\x.o<=39
 .rw[aP eL]at h;exact .inr (.inr (.inr (.inr (.inr ⟨eL,(cJ h).symm⟩))))
 .rw[aw eL]at h;cases h
def lA.node{l:cO}{i:aa}{s:cq}(h:lA l i s){r:br}(aC:r∈s.rs){x:cw}(aj:x∈r.g\/x∈r.v):(x.o=7->0<=x.n/\x.n<s.ins.length)/\(x.o=8->0<=x.n/\x.n<s.ds.length)/\(x.o=33->0<=x.n)/\(x.o=34->0<=x.n)/\(36<=x.o->x.o<=39->0<=s.ms/\0<=x.n/\x.n<(bl l s).ds.length):=by
 obtain⟨j,ay⟩:=mc aC;have H:=h.rs j r ay;rcases aj with aj|aj
 .exact afd (H.DU (by cases al:r.g with|nil=>rw[al]at aj;cases aj|cons a b=>simp)) aj
 .have aN:r.bx.toNat<s.ds.length:=by have:=H.bx;omega
  exact afd (H.hv _ (bn aN)) aj
def abD{n:aa}{A:List br}{r:br}{d:J}(aC:r∈A)(aE:r.bx=d){x:cw}(aj:x∈r.g\/x∈r.v)(eI:x.o=8)(aH:0<=x.n/\x.n<n):rV n A d x.n:=
 ⟨aH,r,aC,aE,aj.imp (λh=>NN h eI) (λh=>NN h eI)⟩
def kd.Mb(h:kd l i s c d0):Good (yR l s c) (Hy l s c d0) (na l s):=by
 have eb:=h.ok.sc.all i s h.at_;refine⟨λm d al=> ?_,λm d al z bP=> ?_⟩
 .rcases al with⟨rfl,aE⟩|⟨ar,ab,ad,ao,aR⟩
  .obtain⟨v,q,r,aQ,-⟩:=h.own aE;refine⟨(aE.rg h.rg).1,wI _,?_⟩;show 0<=(iE l s c (-1) d).cf;rw[aQ];exact Int.natCast_nonneg q
  .have al:=bn (l:=c.mem) (i:=m.toNat) (by omega);obtain⟨v,q,r,aQ,-⟩:=h.t' ar al ad ao aR;refine⟨ad,by omega,?_⟩;show 0<=(iE l s c m d).cf;rw[aQ];exact Int.natCast_nonneg q
 .change z∈jy l s c m d at bP;rcases al with⟨rfl,aE⟩|⟨ar,ab,ad,ao,aR⟩
  .obtain⟨v,q,r,aQ,a_,cv,-⟩:=h.own aE;unfold jy at bP;rw[aP (by decide),aQ]at bP;dsimp only at bP;rw[c7,a_,b9,JG]at bP;rcases bP with bP|⟨x,aj,bP⟩
   .cases bP
   have za:=fe a_;obtain⟨t1,t2,t3,t4,t5⟩:=eb.node za aj;have RF:=aE.rg h.rg;rcases SK bP with⟨aA,rfl⟩|⟨aA,rfl⟩|⟨aA,rfl⟩|⟨aA,rfl⟩|⟨aA,rfl⟩|⟨aA,rfl⟩
   .exact⟨(t1 aA).1,by simp,by simp,λaT=>by simp at aT,λaT=>by simp at aT⟩
   .have sf:=abD za cv aj aA (t2 aA);refine⟨(t2 aA).1,by simp,by simp,λ_=>⟨.inl ⟨rfl,aE.step h.rg sf⟩,?_⟩,λaT=>by simp at aT⟩;unfold na;rw[aP (by decide),aP (by decide)];have:=acS h.sp.top.1 h.sp.top.2 RF sf;show _+List.idxOf x.n _<_;omega
   .exact⟨wI _,by simp,by simp,λaT=>by simp at aT,λaT=>by simp at aT⟩
   .exact⟨t3 aA,by simp,by simp,λaT=>by simp at aT,λaT=>by simp at aT⟩
   .exact⟨Int.tdiv_nonneg (t4 aA) (by decide),by simp,by simp,λaT=>by simp at aT,λaT=>by simp at aT⟩
   .obtain⟨u1,u2,u3⟩:=t5 aA.1 aA.2;refine⟨u2,by simp,by simp,λaT=>by simp at aT,λ_ j ay=>⟨.inr ⟨by omega,Int.ofNat_lt.2 ay,u2,u3,?_⟩,?_⟩⟩
    .refine (AL (h.zi h.rg) u2).2 ⟨x.n,?_,.inl rfl⟩;exact Yr h.rg za (by rw[cv];exact aE) (aj.imp (λg=>Sb g aA.1 aA.2) (λg=>Sb g aA.1 aA.2))
    .unfold na;rw[aw (by omega),aP (by decide)];have hlen:=St (BU (bl l s).ds.length (bl l s).rs) (λl av=>Ak av) h.wy.ac;have dG:=ZN (h.wy.top.2 x.n u2 u3);show List.idxOf x.n _<_;omega
  .obtain⟨sh,dK,jW⟩:=h.JF (by omega);have cB:=h.ok.sc.all _ _ dK;unfold jy at bP;rw[aw (by omega),NL]at bP;rcases bP with bP|⟨j,ay,x,aj,bP⟩
   .cases bP
   have pn:=me.1 ay;have pk:=bn (l:=c.mem) (i:=(j:J).toNat) (by omega);obtain⟨v,q,r,aQ,a_,cv,-⟩:=h.t' (m:=(j:J)) (by omega) pk ad ao aR;rw[aQ]at aj;dsimp only at aj;rw[c7,a_,b9]at aj;have za:=fe a_;obtain⟨t1,t2,t3,t4,t5⟩:=cB.node za aj;rcases SK bP with⟨aA,rfl⟩|⟨aA,rfl⟩|⟨aA,rfl⟩|⟨aA,rfl⟩|⟨aA,rfl⟩|⟨aA,rfl⟩
   .exact⟨(t1 aA).1,by simp,by simp,λaT=>by simp at aT,λaT=>by simp at aT⟩
   .have sf:=abD za cv aj aA (t2 aA);refine⟨(t2 aA).1,by simp,by simp,λ_=>⟨.inr ⟨ar,ab,(t2 aA).1,(t2 aA).2,Yy (h.zi h.rg) d x.n ad ao aR sf⟩,?_⟩,λaT=>by simp at aT⟩;unfold na;rw[aw (by omega),aw (by omega)];exact acS h.wy.top.1 h.wy.top.2 ⟨ad,ao⟩ sf
   .exact⟨wI _,by simp,by simp,λaT=>by simp at aT,λaT=>by simp at aT⟩
   .exact⟨t3 aA,by simp,by simp,λaT=>by simp at aT,λaT=>by simp at aT⟩
   .exact⟨Int.tdiv_nonneg (t4 aA) (by decide),by simp,by simp,λaT=>by simp at aT,λaT=>by simp at aT⟩
   .obtain⟨u1,-,-⟩:=t5 aA.1 aA.2;omega
end
def apm{o n:J}(h:1<=o/\o<=6):c' [⟨o,n⟩]=([0],0,0):=by
 have aA:o=1\/o=2\/o=3\/o=4\/o=5\/o=6:=by omega
 rcases aA with rfl|rfl|rfl|rfl|rfl|rfl<;>simp[c',lp,eP,mv]
def Zy{iD:kj}{o n:J}{t:dh}(h:1<=o/\o<=6)(cr:mC iD o n []=(t,0)):nT iD [⟨o,n⟩]=(t,0):=by
 unfold nT;rw[apm h,aw (by simp)];rw[xS,aw (by rintro⟨-,aT⟩;revert aT;have aA:o=1\/o=2\/o=3\/o=4\/o=5\/o=6:=(by omega);rcases aA with rfl|rfl|rfl|rfl|rfl|rfl<;>simp[zw])];simp only[List.drop_nil,List.take_nil,qj];rw[cr,aw (by simp),xS];rfl
def aaX{k:J}{ms:List gh}(h:1<=k/\k<=5):En ms 0 k=(⟨k,0⟩,0):=by
 unfold En;rw[aw ?_];have aA:k=1\/k=2\/k=3\/k=4\/k=5:=by omega
 rcases aA with rfl|rfl|rfl|rfl|rfl<;>simp[pU,lr,P0]
def ap9(iD:kj):nT iD [⟨1,0⟩]=(⟨1,0⟩,0):=Zy ⟨by decide,by decide⟩ (by unfold mC;rw[aP ⟨by decide,by decide⟩];exact aaX ⟨by decide,by decide⟩)
def amn{bs:List pI}(a1:wP bs){iD:kj}(hm:iD.ms=bs.map (·.mem)){s:cq}{d:J}{f:mI}(aE:0<=d)(bV:s.ds[d.toNat]?=some f)(aK:lr f.k f.e (bs.map (·.mem))=true):
  nT iD (jM s d)=(kq f,0)/\∃x:cw,jM s d=[x]/\x.o≠8/\¬(36<=x.o/\x.o<=39):=by
 have aN:=(b2 bV).1;unfold jM;rw[aw (by omega),bV,b9];by_cases eL:f.k=6
 .rw[aw (by omega),aP eL];refine⟨?_,_,rfl,by simp,by simp⟩;rw[eL,ZF,nB,gg,gg]at aK;refine Zy ⟨by decide,by decide⟩ ?_;unfold mC;rw[aw (by omega),aP rfl];unfold F1;have hdiv:16*f.e/16=f.e:=by omega
  have akq:16*f.e% 16=0:=by omega
  have hel:f.e.toNat<bs.length:=by
   have:=aK.2;rw[er]at this;omega
  have p1:=(a1.all f.e.toNat _ (bn hel)).e2;have mR:Es f.e iD.ms=bs[f.e.toNat].mem:=by
   unfold Es;rw[hm,hS,bn hel,qi,b9]
  rw[aw (by omega),hdiv,akq,mR,hm,aw (by rintro (aT|aT)<;>omega)];unfold kq;rw[eL]
 .rw[ZE eL,nB,nB,gg,gg,gg]at aK;obtain⟨ab,ad,ao⟩:=aK;rw[aP ⟨ab,ad⟩];refine⟨Zy ⟨ab,by omega⟩ ?_,_,rfl,by simp only;omega,by simp only;omega⟩;unfold mC;rw[aP ⟨ab,ad⟩,aaX ⟨ab,ad⟩];unfold kq;rw[ao]
def abo{d:J}{l:List br}{i j:aa}(h:i<=j):nk d (l.take i)<=nk d (l.take j):=by
 unfold nk;exact ((List.take_sublist_take_left h).filter _).length_le
structure PD(x jO:cq):Prop where
 aM:jO.aM=x.aM
 ms:jO.ms=x.ms
 ins:jO.ins=x.ins
 ds:jO.ds=x.ds
 rs:jO.rs=x.rs\/∃keep,jO.rs=ht x keep
structure tK(l l':cO):Prop where
 bs:l'.bs=l.bs
 tb:l'.tb=l.tb
 len:l'.sc.length=l.sc.length
 at_:∀(j:aa)(x:cq),l.sc[j]?=some x->∃jO,l'.sc[j]?=some jO/\PD x jO
section
variable {l l':cO}
def tK.back(h:tK l l'){j:aa}{jO:cq}(ay:l'.sc[j]?=some jO):∃x,l.sc[j]?=some x/\PD x jO:=by
 have aN:j<l.sc.length:=by rw[<-h.len];exact (b2 ay).1
 obtain⟨y,ab,ad⟩:=h.at_ j _ (bn aN);obtain rfl:=cJ (ay.symm.trans ab);exact⟨_,bn aN,ad⟩
def tK.NJ(h:tK l l'){x jO:cq}(aj:jO.ms=x.ms):(bl l' jO).ds=(bl l x).ds:=by
 unfold bl;rw[aj];split
 .cases al:l.sc[x.ms.toNat]? with
  |none=>
   have:l'.sc[x.ms.toNat]?=none:=by
    rw[E1,h.len];exact E1.1 al
   rw[this]
  |some y=>
   obtain⟨x0,ab,ad⟩:=h.at_ _ y al;rw[ab,b9,b9,ad.ds]
 .rfl
def tK.iD(h:tK l l'){x jO:cq}(aj:PD x jO):qa l' jO=qa l x:=by
 have hm:l'.ms=l.ms:=by unfold cO.ms;rw[h.bs]
 unfold qa;rw[hm,h.tb,aj.ins,aj.ds,aj.ms,h.len,h.NJ aj.ms]
def tK.names(h:tK l l'):l'.sc.map (·.aM)=l.sc.map (·.aM):=by
 apply A8;intro j;rw[hS,hS]
 cases al:l.sc[j]? with
 |none=>
  have:l'.sc[j]?=none:=by
   rw[E1,h.len];exact E1.1 al
  rw[this]
 |some y=>
  obtain⟨x0,ab,ad⟩:=h.at_ _ y al;rw[ab,qi,qi,ad.aM]
def lA.lits{j:aa}{x:cq}(a1:wP l.bs)(h:lA l j x):∀r∈x.rs,nT (qa l x) (jM x r.bx)=(kq (x.ds[r.bx.toNat]?.getD ⟨kD,0,0⟩),0)/\∃y:cw,jM x r.bx=[y]/\y.o≠8/\¬(36<=y.o/\y.o<=39):=λr aC=>by
 obtain⟨ar,ab⟩:=h.rd r aC;have bV:=bn (l:=x.ds) (i:=r.bx.toNat) (by omega);obtain⟨-,-,-,aK⟩:=h.ds _ _ bV;rw[bV,b9];exact amn a1 rfl ar bV aK
def lA.Y1{j:aa}{x:cq}(a1:wP l.bs)(h:lA l j x)(keep:aW):ki x.rs (ht x keep) (λj=>(tf (np x.rs keep).1 x.rs)[j]?.getD 0) (λi=>(i:J)∈keep/\i<x.rs.length):=
 anS h.sp.rs λr aC=>(h.lits a1 r aC).2
def ki.dep{A B:List br}{ψ:aa->aa}{iH:aa->Prop}(h:ki A B ψ iH){n:aa}{d e:J}(aE:rV n B d e):rV n A d e:=by
 obtain⟨ab,s,aO,rfl,ad⟩:=aE;obtain⟨j,ay⟩:=mc aO;obtain⟨r,g1,-,g2,-,-,-,-,g3,g4,-⟩:=h.at_ j s ay;by_cases av:iH (ψ j)
 .obtain⟨aQ,a_⟩:=g3 av;exact⟨ab,r,fe g1,g2.symm,by rw[<-aQ,<-a_];exact ad⟩
 .obtain⟨aQ,y,a_,cv,-⟩:=g4 av;rw[aQ,a_]at ad;exfalso;rcases ad with ad|ad
  .simp[hZ]at ad
  .simp[hZ,cv]at ad
def ki.noM{A B:List br}{ψ:aa->aa}{iH:aa->Prop}(h:ki A B ψ iH){s:br}(aO:s∈B){f:J}(bV:f∈ic s.g\/f∈ic s.v):∃i r,A[i]?=some r/\iH i/\r.bx=s.bx/\(f∈ic r.g\/f∈ic r.v):=by
 obtain⟨j,ay⟩:=mc aO;obtain⟨r,g1,-,g2,-,-,-,-,g3,g4,-⟩:=h.at_ j s ay;by_cases av:iH (ψ j)
 .obtain⟨aQ,a_⟩:=g3 av;exact⟨_,r,g1,av,g2.symm,by rw[<-aQ,<-a_];exact bV⟩
 .obtain⟨aQ,y,a_,-,cv⟩:=g4 av;rw[aQ,a_]at bV;exfalso;rcases bV with bV|bV
  .simp[ic]at bV
  .rw[ic,sA,aw (by simpa using cv)]at bV;simp at bV
def anL{n:aa}{A B:List br}(h:∀d e,rV n B d e->rV n A d e){d e:J}(aE:0<=d/\d<n)(aC:pc (gV n B) d e):pc (gV n A) d e:=by
 induction aC with
 |one ab=>exact .one ((BS aE).2 (h _ _ ((BS aE).1 ab)))
 |step ab ad bO=>
  have aC:=ab.CB (Aj n B);exact .step bO ((BS aC).2 (h _ _ ((BS aC).1 ad)))
def tK.sc(h:tK l l')(a1:wP l.bs){j:aa}{x jO:cq}(aj:lA l j x)(aO:PD x jO):lA l' j jO:=by
 have hm:l'.ms=l.ms:=by unfold cO.ms;rw[h.bs]
 have xB:∃ψ iH,ki x.rs jO.rs ψ iH/\∀j s,jO.rs[j]?=some s->∃r,x.rs[ψ j]?=some r/\(¬iH (ψ j)->s.v=jM x r.bx):=by
  rcases aO.rs with e|⟨keep,e⟩
  .rw[e];exact⟨id,λ_=>True,ki.same aj.sp.rs,λj s ay=>⟨s,ay,λaT=>absurd trivial aT⟩⟩
  .rw[e];refine⟨_,_,aj.Y1 a1 keep,λj s ay=> ?_⟩;obtain⟨K,bE⟩:=Ya x.rs keep;rw[Y0,hS]at ay;obtain⟨i,aD,rfl⟩:=Da.1 ay;obtain⟨i0,i1,i2⟩:=R2 aD;simp only[aD,b9];refine⟨_,bn i0,λaT=> ?_⟩;have az:¬(np x.rs keep).2[i]?.getD false=true:=λaz=>aT ⟨(bE i (by omega) (by omega)).1 (by unfold e1;rw[c7];exact az),i0⟩;rw[bn i0,b9];exact aw az
 obtain⟨ψ,iH,aJ,c6⟩:=xB;have Gk:(jO.rs.map (·.bx))=jO.rs.map (·.bx):=rfl;refine⟨by rw[h.bs,aO.aM];exact aj.ne,by rw[h.tb,aO.aM];exact aj.jZ,?_,by rw[aO.aM];exact aj.id,?_,by rw[aO.ins];exact aj.i12,by rw[aO.ds];exact aj.d12,by rw[aO.ins,hm];exact aj.ins,by rw[aO.ins,aO.ds,hm];exact aj.ds,λa r bD=> ?_,λd aE=> ?_⟩
 .rw[aO.aM,E5,h.names,<-E5];exact aj.zn
 .rw[aO.ms];rcases aj.ms with ab|⟨ab,ad,ao⟩
  .exact .inl ab
  .refine .inr ⟨ab,ad,λt cr=> ?_⟩;obtain⟨y,dr,eV⟩:=h.back cr;rw[eV.ms];exact ao y dr
 .obtain⟨oy,g1,g2,g3,g4,g5,g6,g7,g8,g9,g10⟩:=aJ.at_ a r bD;have H:=aj.rs _ _ g1;have ks:=(b2 bD).1;rw[h.iD aO];refine⟨by rw[g2];exact H.id,?_,by rw[g3,aO.ds];exact H.bx,?_,by rw[g4];exact H.d_,by rw[g5,g6];exact H.qd,?_,by rw[g7];exact H.xR,λal=> ?_,λf bV=> ?_⟩
  .have fK:=H.zn;rw[Bool.eq_false_iff]at fK⊢;intro aT;apply fK;rw[GX,o3]at aT⊢;obtain⟨y,bZ,e⟩:=aT;obtain⟨b,af⟩:=mc bZ;have Q3:b<a:=by
    have:=(b2 af).1;rw[gT]at this;omega
   rw[tv Q3]at af;obtain⟨hh,f1,f2,-⟩:=aJ.at_ b y af;refine⟨hh,?_,by rw[<-f2,e,g2]⟩;have aN:=aJ.mono b a Q3 ks;refine fe (i:=ψ b) ?_;rw[tv aN];exact f1
  .rcases g10 with⟨dM,dQ⟩|⟨dM,dQ,fP,kW⟩
   .exact .inl dQ
   .refine .inr ⟨dQ,fP,λp hp=> ?_⟩;obtain⟨hh,f1,-,f3,-⟩:=aJ.at_ _ p hp;rcases H.bJ with bd|⟨-,-,dI⟩
    .omega
    .rw[f3,g3];exact dI hh (by rw[show oy.bJ.toNat=ψ r.bJ.toNat by omega];exact f1)
  .refine Oy ?_ H.fS;rw[g3];have aj9:∀m,m<=a->nk oy.bx (jO.rs.take m)<=nk oy.bx (x.rs.take (if m=0 then 0 else ψ (m-1)+1)):=by
    intro m;induction m with
    |zero=>intro _;simp[nk]
    |succ m bO=>
     intro M_;have gp:m<jO.rs.length:=by omega
     have al:=bn gp;obtain⟨hh,f1,-,f3,-⟩:=aJ.at_ m _ al;rw[Qe al,f3];have bP:(if m+1=0 then 0 else ψ (m+1-1)+1)=ψ m+1:=by simp
     rw[bP,Qe f1];have hle:nk oy.bx (x.rs.take (if m=0 then 0 else ψ (m-1)+1))<=nk oy.bx (x.rs.take (ψ m)):=by
      refine abo ?_;split
      .omega
      .have:=aJ.mono (m-1) m (by omega) gp;omega
     have:=bO (by omega);omega
   refine fN (aj9 a (bB _)) (abo ?_);split
   .omega
   .have:=aJ.mono (a-1) a (by omega) ks;omega
  .by_cases av:iH (ψ a)
   .rw[(g8 av).1]at al⊢;exact H.DU al
   .rw[(g9 av).1];exact ap9 _
  .rw[g3,aO.ds]at bV;by_cases av:iH (ψ a)
   .rw[(g8 av).2];exact H.hv f bV
   .obtain⟨hh,f1,f2⟩:=c6 a r bD;obtain rfl:=cJ (g1.symm.trans f1);rw[f2 av,(aj.lits a1 _ (fe g1)).1,bV,b9]
 .rw[aO.ds]at aE⊢;have fK:=aj.ac d aE;rw[Bool.eq_false_iff]at fK⊢;intro aT;apply fK;rw[List.contains_iff_mem]at aT⊢;have aC:0<=(d:J)/\(d:J)<x.ds.length:=⟨by omega,by omega⟩;rw[CK aC]at aT⊢;exact anL (λ_ _=>aJ.dep) aC aT
def tK.ok(h:tK l l')(av:lx l):lx l':=by
 refine⟨by rw[h.bs];exact av.bs,by rw[h.bs,h.tb];exact av.tb,by rw[h.len];exact av.sc.aD,λj jO ay=> ?_⟩;obtain⟨x,ab,ad⟩:=h.back ay;exact h.sc av.bs (av.sc.all j x ab) ad
end
def mD(s:cq)(rs:List br):cq:=⟨s.aM,s.ms,s.ins,s.ds,rs⟩
def j_(l:cO)(i:aa)(s:cq)(own gE:aW):cO:=
 ⟨l.bs,l.tb,if 0<=s.ms/\s.ms<l.sc.length/\s.ms≠i then (l.sc.set i (mD s (ht s own))).set s.ms.toNat (mD (bl l s) (ht (bl l s) gE))else l.sc.set i (mD s (ht s own))⟩
def Zc{l:cO}{i:aa}{s:cq}(own gE:aW)(aD:l.sc[i]?=some s):tK l (j_ l i s own gE):=by
 have fB:=(b2 aD).1;refine⟨rfl,rfl,?_,λj x ay=> ?_⟩
 .unfold j_;simp only;split<;>simp
 .have qL:=(b2 ay).1;unfold j_;simp only;split
  .rename_i hm;by_cases ab:j=s.ms.toNat
   .subst ab;rw[uk (by rw[gJ];exact qL)];have aj:bl l s=x:=by
     unfold bl;rw[aP hm.1,ay,b9]
    rw[aj];exact⟨_,rfl,⟨rfl,rfl,rfl,rfl,.inr ⟨gE,rfl⟩⟩⟩
   .rw[wK (λe=>ab e.symm)];by_cases ad:j=i
    .subst ad;rw[uk fB];obtain rfl:=cJ (aD.symm.trans ay);exact⟨_,rfl,⟨rfl,rfl,rfl,rfl,.inr ⟨own,rfl⟩⟩⟩
    .rw[wK (λe=>ad e.symm)];exact⟨x,ay,⟨rfl,rfl,rfl,rfl,.inl rfl⟩⟩
  .by_cases ad:j=i
   .subst ad;rw[uk fB];obtain rfl:=cJ (aD.symm.trans ay);exact⟨_,rfl,⟨rfl,rfl,rfl,rfl,.inr ⟨own,rfl⟩⟩⟩
   .rw[wK (λe=>ad e.symm)];exact⟨x,ay,⟨rfl,rfl,rfl,rfl,.inl rfl⟩⟩
def Py(ns:List cl)(own:aW):Prop:=∀q:J,q∈own↔∃n∈ns,n.k=1/\n.m= -1/\n.cf=q
def Pt(ns:List cl)(gE:aW):Prop:=∀q:J,q∈gE↔∃n∈ns,n.k=1/\0<=n.m/\n.cf=q
def ki.noD{A B:List br}{ψ:aa->aa}{iH:aa->Prop}(h:ki A B ψ iH){n:aa}{d e:J}(aE:rV n B d e):(0<=e/\e<n)/\∃i r,A[i]?=some r/\iH i/\r.bx=d/\(e∈hZ r.g\/e∈hZ r.v):=by
 obtain⟨ab,s,aO,rfl,ad⟩:=aE;obtain⟨j,ay⟩:=mc aO;obtain⟨r,g1,-,g2,-,-,-,-,g3,g4,-⟩:=h.at_ j s ay;by_cases av:iH (ψ j)
 .obtain⟨aQ,a_⟩:=g3 av;exact⟨ab,_,r,g1,av,g2.symm,by rw[<-aQ,<-a_];exact ad⟩
 .obtain⟨aQ,y,a_,cv,-⟩:=g4 av;rw[aQ,a_]at ad;exfalso;rcases ad with ad|ad
  .simp[hZ]at ad
  .simp[hZ,cv]at ad
def Sq{l:List cw}{e:J}(h:e∈hZ l):∃x∈l,p' x=some (1,e):=by
 unfold hZ at h;obtain⟨x,aj,rfl⟩:=o3.1 h;rw[uq,gg]at aj;exact⟨x,aj.1,by unfold p';rw[aw (by omega),aP aj.2]⟩
def adG{l:List cw}{e:J}(h:e∈ic l):∃x∈l,p' x=some (4,e):=by
 unfold ic at h;obtain⟨x,aj,rfl⟩:=o3.1 h;rw[uq,gg]at aj;exact⟨x,aj.1,by unfold p';rw[aw (by omega),aw (by omega),aw (by omega),aw (by omega),aw (by omega),aP aj.2]⟩
section
variable {l:cO} {i:aa} {s:cq} {c:gl} {d0:J}
structure Kq(l:cO)(s:cq)(c:gl)(d0:J)(ns:List cl):Prop where
 top:gf ns (-1) d0=true
 qd:BC (yR l s c) (Hy l s c d0) ns
 Qb:∀m d,gf ns m d=true->∀r∈jy l s c m d,DQ (yR l s c) ns m r
def kd.exn(h:kd l i s c d0){F:aa}(hF:na l s (-1) d0<F):Kq l s c d0 (hJ (yR l s c) F [] (-1) d0 0)/\vw [] (hJ (yR l s c) F [] (-1) d0 0):=by
 obtain⟨aQ,a_⟩:=Zj h.Mb F [] (-1) d0 0 hF (.inl ⟨rfl,.inl rfl⟩) (wI _) (λn aH=>by cases aH) (λa bD=>by cases bD);obtain⟨⟨vp,ab,-,ad⟩,ao,aR⟩:=aQ;rw[qj]at ab;exact⟨⟨a_,ao,λm d aE=>(aR m d aE).resolve_left (by simp[gf])⟩,by rw[ab];exact ad⟩
def Kq.node{ns:List cl}(h:Kq l s c d0 ns){m d:J}(aE:gf ns m d=true):∃n∈ns,n.k=1/\n.m=m/\n.cQ=d/\n.cf=(iE l s c m d).cf/\Hy l s c d0 m d:=by
 obtain⟨n,ab,ad,ao,aR⟩:=Gf.1 aE;obtain⟨-,g2,g3⟩:=h.qd n ab ad;rw[ao,aR]at g2 g3;exact⟨n,ab,ad,ao,aR,g2,g3⟩
def kd.same(h:kd l i s c d0){ns:List cl}(aH:Kq l s c d0 ns){own gE:aW}(aA:Py ns own)(hm:Pt ns gE):
  (mL cz (j_ l i s own gE) (mD s (ht s own)) c d0).c=0/\(mL cz (j_ l i s own gE) (mD s (ht s own)) c d0).v=(iE l s c (-1) d0).v:=by
 have eb:=h.ok.sc.all i s h.at_;have GD:=Zc (l:=l) own gE h.at_;have acB:=GD.ok h.ok;have fB:=(b2 h.at_).1;have Rq:s.ms<i:=by
  rcases eb.ms with ab|⟨-,ab,-⟩
  .omega
  .exact ab
 have Q0:(j_ l i s own gE).sc[i]?=some (mD s (ht s own)):=by
  unfold j_;simp only;split
  .rw[wK (by omega),uk fB]
  .rw[uk fB]
 have aJ:=eb.Y1 h.ok.bs own;obtain⟨ψm,FA,QS,hLm,rv⟩:∃ψm FA,ki (bl l s).rs (bl (j_ l i s own gE) (mD s (ht s own))).rs ψm FA/\(∀q:aa,q<(bl l s).rs.length->((FA q->(q:J)∈gE)/\((q:J)∈gE->FA q)))/\(bl (j_ l i s own gE) (mD s (ht s own))).ds=(bl l s).ds:=by
  by_cases ar:0<=s.ms
  .have aN:s.ms.toNat<l.sc.length:=by omega
   have al:=bn aN;have he:bl l s=l.sc[s.ms.toNat]:=by
    unfold bl;rw[aP ar,al,b9]
   have M_:bl (j_ l i s own gE) (mD s (ht s own))=mD (bl l s) (ht (bl l s) gE):=by
    have nL:(j_ l i s own gE).sc=(l.sc.set i (mD s (ht s own))).set s.ms.toNat (mD (bl l s) (ht (bl l s) gE)):=aP ⟨ar,by omega,by omega⟩;show (if 0<=s.ms then (j_ l i s own gE).sc[s.ms.toNat]?.getD j' else j')=_;rw[aP ar,nL,uk (by rw[gJ];exact aN),b9]
   rw[M_];refine⟨_,_,(h.ok.sc.all _ _ (by rw[he];exact al)).Y1 h.ok.bs gE,λq az=>⟨λaT=>aT.1,λaT=>⟨aT,az⟩⟩,rfl⟩
  .have aQ:bl l s=j':=by unfold bl;rw[aw ar]
   have a_:bl (j_ l i s own gE) (mD s (ht s own))=j':=by unfold bl;exact aw ar
   rw[aQ,a_];refine⟨id,λ_=>True,ki.same aeN.rs,λq az=>by simp[j']at az,rfl⟩
 have kt:∀x,n9 s.ds (ht s own) d0 x->gf ns (-1) x=true:=λx aj=>aj.ind h.rg (P:=λx=>gf ns (-1) x=true) aH.top (λe f he _ sf=>by
  obtain⟨bV,a,r,eS,a2,a3,a4⟩:=aJ.noD sf;obtain⟨n,e9,eC,ia,wz⟩:=(aA _).1 a2.1;obtain⟨-,v2,v3⟩:=aH.qd n e9 eC;rw[ia]at v2 v3;change n.cf=(iE l s c (-1) n.cQ).cf at v2;rcases v3 with⟨-,v3⟩|⟨v3,-⟩
  .obtain⟨v,q,lo,w1,w2,ch,-⟩:=h.own v3;rw[w1]at v2;dsimp only at v2;have y_:q=a:=by omega
   rw[y_,eS]at w2;obtain rfl:=cJ w2;have M0:n.cQ=e:=ch.symm.trans a3;rw[M0]at w1;obtain⟨x,bQ,cx⟩:∃x,(x∈r.g\/x∈r.v)/\p' x=some (1,f):=by
    rcases a4 with a4|a4
    .obtain⟨x,bQ,cx⟩:=Sq a4;exact⟨x,.inl bQ,cx⟩
    .obtain⟨x,bQ,cx⟩:=Sq a4;exact⟨x,.inr bQ,cx⟩
   have mR:((1,f):J×J)∈jy l s c (-1) e:=by
    unfold jy;rw[aP (by decide),w1];dsimp only;rw[c7,y_,eS,b9,JG];exact .inr ⟨x,bQ,cx⟩
   exact (aH.Qb (-1) e he _ mR).1 rfl
  .omega)
 have Rr:∀f,f∈j9 s.ds (ht s own) d0->f∈j9 s.ds s.rs d0/\∀j:aa,j<c.mem.length->gf ns (j:J) f=true:=λf bV=>by
  obtain⟨b,c9,bW,j8,ee⟩:=(NM h.rg).1 bV;obtain⟨a,r,eS,a2,a3,a4⟩:=aJ.noM c9 ee;have h4:=kt b.bx j8;obtain⟨n,e9,eC,ia,wz⟩:=(aA _).1 a2.1;obtain⟨-,v2,v3⟩:=aH.qd n e9 eC;rw[ia]at v2 v3;change n.cf=(iE l s c (-1) n.cQ).cf at v2;rcases v3 with⟨-,v3⟩|⟨v3,-⟩
  .obtain⟨v,q,lo,w1,w2,ch,-⟩:=h.own v3;rw[w1]at v2;dsimp only at v2;have y_:q=a:=by omega
   rw[y_,eS]at w2;obtain rfl:=cJ w2;have M0:n.cQ=b.bx:=ch.symm.trans a3;rw[M0]at w1 v3;refine⟨Yr h.rg (fe eS) (by rw[a3];exact v3) a4,λj ay=> ?_⟩;obtain⟨x,bQ,cx⟩:∃x,(x∈r.g\/x∈r.v)/\p' x=some (4,f):=by
    rcases a4 with a4|a4
    .obtain⟨x,bQ,cx⟩:=adG a4;exact⟨x,.inl bQ,cx⟩
    .obtain⟨x,bQ,cx⟩:=adG a4;exact⟨x,.inr bQ,cx⟩
   have mR:((4,f):J×J)∈jy l s c (-1) b.bx:=by
    unfold jy;rw[aP (by decide),w1];dsimp only;rw[c7,y_,eS,b9,JG];exact .inr ⟨x,bQ,cx⟩
   exact (aH.Qb (-1) _ h4 _ mR).2 rfl j ay
  .omega
 have dG:h8 (bl l s).ds.length (j9 s.ds (ht s own) d0):=λf bV=>h.zi h.rg f (Rr f bV).1;have gp:(bl (j_ l i s own gE) (mD s (ht s own))).ds.length=(bl l s).ds.length:=by rw[rv]
 have aku:∀f:J,0<=f->gS (fv (mD s (ht s own)) (bl (j_ l i s own gE) (mD s (ht s own))) d0) f=true->gS (fv s (bl l s) d0) f=true/\∀j:aa,j<c.mem.length->gf ns (j:J) f=true:=λf f0 bV=>by
  obtain⟨e,he,az⟩:=(AL (s:=mD s (ht s own)) (by rw[gp];exact dG) f0).1 bV;rw[gp]at az;have Gl:=Rr e he;have MR:=dG e he;refine az.ind MR (P:=λf=>gS (fv s (bl l s) d0) f=true/\∀j:aa,j<c.mem.length->gf ns (j:J) f=true) ⟨(AL (h.zi h.rg) MR.1).2 ⟨e,Gl.1,.inl rfl⟩,Gl.2⟩ (λe f eJ MR sf=> ?_);obtain⟨bV,a,r,eS,a2,a3,a4⟩:=QS.noD sf;refine⟨Yy (h.zi h.rg) e f MR.1 MR.2 eJ.1 ⟨bV,r,fe eS,a3,a4⟩,λj ay=> ?_⟩;obtain⟨n,e9,eC,ia,wz⟩:=(hm _).1 ((hLm a (b2 eS).1).1 a2);obtain⟨-,v2,v3⟩:=aH.qd n e9 eC;change n.cf=(iE l s c n.m n.cQ).cf at v2;rcases v3 with⟨v3,-⟩|⟨g0,g1,g2,g3,g4⟩
  .omega
  .have al:=bn (l:=c.mem) (i:=n.m.toNat) (by omega);obtain⟨v,q,lo,w1,w2,ch,-⟩:=h.t' g0 al g2 g3 g4;rw[w1]at v2;dsimp only at v2;have y_:q=a:=by omega
   rw[y_,eS]at w2;obtain rfl:=cJ w2;have M0:n.cQ=e:=ch.symm.trans a3;rw[M0]at w1;obtain⟨x,bQ,cx⟩:∃x,(x∈r.g\/x∈r.v)/\p' x=some (1,f):=by
    rcases a4 with a4|a4
    .obtain⟨x,bQ,cx⟩:=Sq a4;exact⟨x,.inl bQ,cx⟩
    .obtain⟨x,bQ,cx⟩:=Sq a4;exact⟨x,.inr bQ,cx⟩
   have mR:((1,f):J×J)∈jy l s c (j:J) e:=by
    unfold jy;rw[aw (by omega),NL];refine .inr ⟨n.m.toNat,me.2 (by omega),x,?_,cx⟩;rw[show ((n.m.toNat:aa):J)=n.m by omega,w1];dsimp only;rw[c7,y_,eS,b9];exact bQ
   exact (aH.Qb _ _ (eJ.2 j ay) _ mR).1 rfl
 obtain⟨dM,dQ,-⟩:=abJ (Lf:=cz) (l:=l) (s:=s) (l':=j_ l i s own gE) (s':=mD s (ht s own)) (c:=c) (d:=d0) (e:=d0) h.rd rfl h.sp ((acB.sc.all i _ Q0).sp) h.wy ((acB.sc.NF.bl (fe Q0)).1) rfl rv aJ QS h.rg dG h.dw
  (λx bX bQ aj=>by
   have az:=kt x ((wG h.rg bX).1 aj);obtain⟨n,e9,eC,ia,wz,CL,zj⟩:=aH.node az;rcases zj with⟨-,zj⟩|⟨zj,-⟩
   .refine⟨(wG h.rg bX).2 zj,λq az=> ?_⟩;obtain⟨v,G1,r,w1,w2,-,-,eK⟩:=h.own zj;obtain rfl:=cJ (az.symm.trans eK);refine⟨by omega,?_⟩;rw[c7];refine⟨(aA _).2 ⟨n,e9,eC,ia,?_⟩,(b2 w2).1⟩;rw[CL,w1]
   .omega)
  (λf f0 f1 bV=>by
   obtain⟨g1,g2⟩:=aku f f0 bV;refine⟨g1,λbY lJ q az=> ?_⟩;obtain⟨j,ay⟩:=mc lJ;have qL:=(b2 ay).1;obtain⟨n,e9,eC,ia,wz,CL,zj⟩:=aH.node (g2 j qL);obtain⟨v,G1,r,w1,w2,-,-,eK⟩:=h.t' (m:=(j:J)) (by omega) (by rw[c7];exact ay) f0 f1 g1;obtain rfl:=cJ (az.symm.trans eK);refine⟨by omega,?_⟩;rw[c7];refine (hLm G1 (b2 w2).1).2 ((hm _).2 ⟨n,e9,eC,by omega,?_⟩);rw[CL,w1])
 refine⟨dM,?_⟩;rw[dQ];obtain⟨v,q,r,w1,-,-,eK,-⟩:=h.own (.inl rfl);rw[w1,eK,b9]
end
def ajb{pre:List cl}{n:cl}(ai:n.k=1)(h:rn pre n.m n.cQ=none)(m d:J):rn (pre++[n]) m d=if m=n.m/\d=n.cQ then some n.v else rn pre m d:=by
 unfold rn at h⊢;rw[List.find?_append];by_cases rv:m=n.m/\d=n.cQ
 .obtain⟨rfl,rfl⟩:=rv;rw[aP ⟨rfl,rfl⟩];rw[Option.map_eq_none_iff]at h;rw[h,Option.none_or];have:rC n.m n.cQ n=true:=by unfold rC;rw[gg];exact⟨ai,rfl,rfl⟩
  rw[List.find?_cons_of_pos this];rfl
 .rw[aw rv];have:rC m d n=false:=by
   unfold rC;rw[vC];exact λaT=>rv ⟨aT.2.1.symm,aT.2.2.symm⟩
  rw[List.find?_cons_of_neg (by rw[this];simp),List.find?_nil,Option.or_none]
def ajd{pre:List cl}{n:cl}(ai:n.k≠1)(m d:J):rn (pre++[n]) m d=rn pre m d:=by
 unfold rn;rw[List.find?_append];have:rC m d n=false:=by
  unfold rC;rw[vC];exact λaT=>ai aT.1
 rw[List.find?_cons_of_neg (by rw[this];simp),List.find?_nil,Option.or_none]
theorem afp:∀(s pre:List cl),vw pre s->∀(j:aa)(n:cl),s[j]?=some n->YL (pre++s.take j) n
 |[],_,_,j,n,h=>by simp at h
 |x::s,pre,h,0,n,ay=>by
  rw[iP]at ay;obtain rfl:=cJ ay;rw[q0,hj];exact h.1
 |x::s,pre,h,j+1,n,ay=>by
  rw[jd]at ay;have:=afp s (pre++[x]) h.2 j n ay;rw[nY,J_]at this;rw[sz];exact this
def pA(ns:List cl):aW:=(ns.filter λn=>decide (n.k=1/\n.m= -1)).map (·.cf)
def pw(ns:List cl):aW:=(ns.filter λn=>decide (n.k=1/\0<=n.m)).map (·.cf)
def anD{ns:List cl}{own:aW}(h:∀q,q∈own↔q∈pA ns):Py ns own:=λq=>by
 rw[h];unfold pA;simp only[o3,uq,gg];constructor
 .rintro⟨n,⟨ab,ad,ao⟩,aR⟩;exact⟨n,ab,ad,ao,aR⟩
 .rintro⟨n,ab,ad,ao,aR⟩;exact⟨n,⟨ab,ad,ao⟩,aR⟩
def amB{ns:List cl}{gE:aW}(h:∀q,q∈gE↔q∈pw ns):Pt ns gE:=λq=>by
 rw[h];unfold pw;simp only[o3,uq,gg];constructor
 .rintro⟨n,⟨ab,ad,ao⟩,aR⟩;exact⟨n,ab,ad,ao,aR⟩
 .rintro⟨n,ab,ad,ao,aR⟩;exact⟨n,⟨ab,ad,ao⟩,aR⟩
def zv(l:cO)(s:cq)(c:gl):List (J×J):=((List.range s.ds).map λd:aa=>((-1:J),(d:J)))++(List.range c.mem).flatMap λj:aa=>(List.range (bl l s).ds.length).map λd:aa=>((j:J),(d:J))
def aqq{l:cO}{i:aa}{s:cq}{c:gl}{d0 m d:J}(h:kd l i s c d0)(al:Hy l s c d0 m d):(m,d)∈zv l s c:=by
 unfold zv;rw[k5];rcases al with⟨rfl,aE⟩|⟨ar,ab,ad,ao,-⟩
 .left;have aC:=aE.rg h.rg;rw[o3];exact⟨d.toNat,me.2 (by omega),by rw[E2 aC.1]⟩
 .right;rw[List.mem_flatMap];refine⟨m.toNat,me.2 (by omega),?_⟩;rw[o3];exact⟨d.toNat,me.2 (by omega),by rw[E2 ar,E2 ad]⟩
theorem abN{α β:Type}(f:α->List β)(k:aa):∀l:List α,(∀x∈l,(f x).length<=k)->(l.flatMap f).length<=k*l.length
 |[],_=>by simp
 |x::l,h=>by
  rw[zC,fk,hi,Nat.mul_add,jD];have ab:=h x (by simp);have ad:=abN f k l λy bZ=>h y (by simp[bZ]);omega
def aqp{l:cO}{s:cq}{c:gl}(ab:s.ds.length<=12)(ad:(bl l s).ds.length<=12)(ao:c.mem.length<=8):(zv l s c).length<=108:=by
 unfold zv;rw[fk,er,vG];have:=abN (λj:aa=>(List.range (bl l s).ds.length).map λd:aa=>((j:J),(d:J))) (bl l s).ds.length (List.range c.mem) (λj _=>by simp);rw[vG]at this;have:=Tt ad ao;omega
def w6(l:cO)(sc d:J):Prop:=(0<=sc/\sc<l.sc.length)/\0<=d/\d<(l.sc[sc.toNat]?.getD j').ds.length
noncomputable def n'(l:cO)(sc:J)(c:gl)(d:J):J:=
 @ite _ (lx l) (Classical.propDecidable _) (@ite _ (w6 l sc d) (Classical.propDecidable _) (qW l.ms l.c2 sc c.d c.ins c.mem).2.2 6) 1
def aaO{l:cO}{sc d:J}{c:gl}(h:¬lx l):n' l sc c d=1:=by unfold n';exact aw h
def aaP{l:cO}{sc d:J}{c:gl}(h:lx l)(ad:¬w6 l sc d):n' l sc c d=6:=by unfold n';rw[aP h];exact aw ad
def Ip{l:cO}{sc d:J}{c:gl}(h:lx l)(ad:w6 l sc d):n' l sc c d=(qW l.ms l.c2 sc c.d c.ins c.mem).2.2:=by unfold n';rw[aP h];exact aP ad
noncomputable def Ad(l:cO)(sc:J)(c:gl)(d:J):J:=
 @ite _ (lx l) (Classical.propDecidable _) (@ite _ (w6 l sc d) (Classical.propDecidable _) (qW l.ms l.c2 sc c.d c.ins c.mem).1 (-1)) (-1)
def ahi{l:cO}{sc d:J}{c:gl}(h:¬lx l):Ad l sc c d= -1:=by unfold Ad;exact aw h
def ahk{l:cO}{sc d:J}{c:gl}(h:lx l)(ad:¬w6 l sc d):Ad l sc c d= -1:=by unfold Ad;rw[aP h];exact aw ad
def ahj{l:cO}{sc d:J}{c:gl}(h:lx l)(ad:w6 l sc d):Ad l sc c d=(qW l.ms l.c2 sc c.d c.ins c.mem).1:=by unfold Ad;rw[aP h];exact aP ad
def vW(k m:J)(w:ag)(e:Ending)(w':ag):Prop:=∃a b d:J,e=bL (aF #[k,a,b,d])/\lV k m (-1) (-1) a b d/\Kept w w'
def vW.mk{k m x a:J}{w w':ag}(h:k=x/\m=a)(ar:x≠0)(ai:Kept w w'):vW k m w (bL (aF #[x,a,ah (-1),ah (-1)])) w':=by
 obtain⟨rfl,rfl⟩:=h;exact⟨_,_,_,rfl,lV.err ar,ai⟩
def vW.ok{k m:J}{w w':ag}(h:k=0)(ai:Kept w w'):vW k m w (bL (aF #[(),(),(),()])) w':=by
 subst h;exact⟨0,0,0,rfl,lV.ok,ai⟩
def ah0(cm gX hn:ak)(l:cO)(sc d:J)(c:gl)(w:ag)(bE:h1 w cm l)(b6:ft w gX c.ins)(bN:kh w hn c.mem)(fB:c.ins.length<=9223372036854775807):
  bg 17 #[cm,sc,aF #[c.d,gX,hn],bR true,d] w (vW (n' l sc c d) (Ad l sc c d) w):=by
 have fE:=I (λw1(h:Kept w w1)=>alU cm l w1 (bE.kept h));have ct:=I (λw1(h:Kept w w1)=>aqy cm gX hn l.ms l.c2 sc c.d c.ins c.mem w1 (bE.kept h).ac2 (b6.kept h) fB (bN.kept h));unfold nR at fE;unfold ZC at ct;obtain⟨dw,cM,cH,rfl,ar,ab,ad⟩:=bE;obtain⟨c5,eW,rfl,-⟩:=id ar;obtain⟨cV,cX,rfl,-⟩:=id ab;obtain⟨hM,fJ,rfl,hcS,Ro,wo⟩:=id ad;obtain⟨eh,fR,rfl,-⟩:=id b6;obtain⟨ff,ih,rfl,-⟩:=id bN;have rW:=I (λh=>bb (aaO (l:=l) (sc:=sc) (d:=d) (c:=c) h) (ahi (l:=l) (sc:=sc) (d:=d) (c:=c) h));have Pd:=I (λh ad=>bb (aaP (l:=l) (sc:=sc) (d:=d) (c:=c) h ad) (ahk (l:=l) (sc:=sc) (d:=d) (c:=c) h ad));have Dn:=I (λh ad=>bb (Ip (l:=l) (sc:=sc) (d:=d) (c:=c) h ad) (ahj (l:=l) (sc:=sc) (d:=d) (c:=c) h ad));generalize n' l sc c d=R at*;generalize Ad l sc c d=au8 at*;obtain⟨dt,ins,mem⟩:=c;dsimp only at*;generalize qW l.ms l.c2 sc dt ins mem=UY at*;obtain⟨tq,avP,eT⟩:=UY;dsimp only at ct Dn;have HXS:=I wo;have Ur:=I (show w6 l sc d->(0<=sc/\sc<l.sc.length)/\0<=d/\d<(l.sc[sc.toNat]?.getD j').ds.length from λh=>h);have T4:=I (show (0<=sc/\sc<l.sc.length)/\0<=d/\d<(l.sc[sc.toNat]?.getD j').ds.length->w6 l sc d from λh=>h);generalize w6 l sc d=au5 at*;generalize lx l=au4 at*;generalize l.bs.length=dS at*;generalize l.tb.length=dd at*;generalize ot:l.sc.length=fO at*;have Bm:=I ot;generalize ins.length=cC at*;generalize mem.length=eE at*;clear ar ab ad wo b6 bN fB ot;go_enter func17,ntmps17
 go_upto_region 1 with fail
 generalize aL:((w.alloc _).alloc _).alloc _=W at*;obtain⟨aV,bo,bh,bm⟩:=Kept.cv aL;clear aL;have zM:=I (λw1(h:Kept W w1)=>bo.kept h);have e3:=I (λw1(h:Kept W w1)=>bh.kept h);have eA:=I (λw1(h:Kept W w1)=>bm.kept h);have e8:=I aV;obtain⟨cK,cR⟩:=bo.p;clear bo bh bm aV;go_upto_region 2 with (go_at_call 29;refine (fE _ e8).mono ?_;rintro aQ w1⟨x,a,b,e,rfl,az,-,au⟩;have b1:=I az;clear az)
 generalize aL:w1.alloc _=V at*;obtain⟨hz,cP⟩:=Kept.aQ aL;clear aL;have fi:=au.trans hz;clear hz;obtain⟨bu,dW⟩:=cP.p;clear cK cR cP;by_cases aj:x=0
 case neg=>
  have qQ:(x !=0)=true:=by simpa using aj
  have aC:=I (rW (λq=>aj (b1.2 q)));clear aj;have bW:=eA.out _ fi;obtain⟨a',b5,f2⟩:=bW.q;have cE:=I (oU bW (e8.trans fi) (by omega) (ah 1) (ah (-1)) (ah (-1)) (ah (-1)));clear bW;go_wp2_with fail
  have e5:=cE.1.cell;exact bI (v:=aF #[ah 1,ah (-1),ah (-1),ah (-1)]) (by simp[results,results17,go_sem,e5]) rfl (vW.mk aC (by decide) cE.2)
 have uZ:=I (b1.1 aj);subst aj;have cK:=(zM _ fi).cell;have cR:=(zM _ fi).lt;by_cases qP:sc<0
 .have aC:=I (Pd uZ (λq=>by have:=(Ur q).1;omega));have bW:=eA.out _ fi;obtain⟨a',b5,f2⟩:=bW.q;have cE:=I (oU bW (e8.trans fi) (by omega) (ah 6) (ah (-1)) (ah (-1)) (ah (-1)));clear bW;go_wp2_with fail
  have e5:=cE.1.cell;exact bI (v:=aF #[ah 6,ah (-1),ah (-1),ah (-1)]) (by simp[results,results17,go_sem,e5]) rfl (vW.mk aC (by decide) cE.2)
 obtain⟨k,rfl⟩:=A_ (Int.not_lt.1 qP);by_cases rA:fO<=k
 .have aC:=I (Pd uZ (λq=>by have:=(Ur q).1;omega));have asH:(fO:J)<=k:=by omega
  clear rA qP;have bW:=eA.out _ fi;obtain⟨a',b5,f2⟩:=bW.q;have cE:=I (oU bW (e8.trans fi) (by omega) (ah 6) (ah (-1)) (ah (-1)) (ah (-1)));clear bW;go_wp2_with fail
  have e5:=cE.1.cell;exact bI (v:=aF #[ah 6,ah (-1),ah (-1),ah (-1)]) (by simp[results,results17,go_sem,e5]) rfl (vW.mk aC (by decide) cE.2)
 obtain⟨pS,o,rfl,af,aq⟩:=HXS.out (by omega);have al:l.sc[k]?=some (l.sc[k]'(by rw[Bm];omega)):=bn _;obtain⟨-,-,-,⟨dy,t3,cY⟩,-⟩:=aq k _ al;have Us:=I (λq=>(Ur q).2);have aak:=I (λ(q:0<=d/\d<(l.sc[(k:J).toNat]?.getD j').ds.length)=>T4 ⟨by omega,q⟩);rw[c7,al,b9]at Us aak;generalize l.sc[k]'(by rw[Bm];omega)=s at*;obtain⟨hT,ij,rfl,-⟩:=cY;generalize s.ds.length=ei at*;unfold g' at t3;replace t3:=(e8.trans fi).aI af t3;have mw:=bG af (e8.trans fi).size;have lF:(k:J)<fO:=by omega
 clear aq al qP;by_cases kF:d<0
 .have aC:=I (Pd uZ (λq=>by have:=Us.out q;omega));clear rA;have bW:=eA.out _ fi;obtain⟨a',b5,f2⟩:=bW.q;have cE:=I (oU bW (e8.trans fi) (by omega) (ah 6) (ah (-1)) (ah (-1)) (ah (-1)));clear bW;go_wp2_with fail
  have e5:=cE.1.cell;exact bI (v:=aF #[ah 6,ah (-1),ah (-1),ah (-1)]) (by simp[results,results17,go_sem,e5]) rfl (vW.mk aC (by decide) cE.2)
 by_cases hf:ei<=d
 .have aC:=I (Pd uZ (λq=>by have:=Us.out q;omega));clear rA;have bW:=eA.out _ fi;obtain⟨a',b5,f2⟩:=bW.q;have cE:=I (oU bW (e8.trans fi) (by omega) (ah 6) (ah (-1)) (ah (-1)) (ah (-1)));clear bW;go_wp2_with fail
  have e5:=cE.1.cell;exact bI (v:=aF #[ah 6,ah (-1),ah (-1),ah (-1)]) (by simp[results,results17,go_sem,e5]) rfl (vW.mk aC (by decide) cE.2)
 have dG:=I (Dn uZ (aak ⟨by omega,by omega⟩));have aY:=(e3 _ fi).cell;have bq:=(e3 _ fi).lt;clear rA;go_upto_region 7 with (go_at_call 30;refine (ct _ (e8.trans fi)).mono ?_;rintro a_ w2⟨rfl,bt⟩)
 have fb:=fi.trans bt;clear cK cR aY bq bu dW t3 mw;by_cases aK:eT=0
 .have aC:=I (dG.1.trans aK);subst aK;have bW:=eA.out _ fb;obtain⟨a',b5,f2⟩:=bW.q;have cE:=I (oU bW (e8.trans fb) (by omega) () () () ());clear bW;go_wp2_with fail
  have e5:=cE.1.cell;exact bI (v:=aF #[(),(),(),()]) (by simp[results,results17,go_sem,e5]) rfl (vW.ok aC cE.2)
 .have hvb:(eT !=0)=true:=by simpa using aK
  have aC:=I (bb dG.out aK);clear aK;have bW:=eA.out _ fb;obtain⟨a',b5,f2⟩:=bW.q;have cE:=I (oU bW (e8.trans fb) (by omega) eT tq (ah (-1)) (ah (-1)));clear bW;go_wp2_with fail
  have e5:=cE.1.cell;exact bI (v:=aF #[eT,tq,ah (-1),ah (-1)]) (by simp[results,results17,go_sem,e5]) rfl (vW.mk aC.1 aC.2 cE.2)
end Go.Proofs.YtilhklpfkgbikaaGreatDoor
