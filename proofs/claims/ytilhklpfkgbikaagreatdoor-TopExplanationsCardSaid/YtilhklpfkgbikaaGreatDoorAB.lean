import Derived.Test.YtilhklpfkgbikaaGreatDoorO
import Derived.Test.YtilhklpfkgbikaaGreatDoorX
set_option linter.all false
namespace Go.Proofs.YtilhklpfkgbikaaGreatDoor
open Go.RowKit Go.Proofs.Tryz
set_option maxRecDepth 100000
set_option maxHeartbeats 8000000
def qa(L:cO)(s:cq):kj:=⟨L.ms,L.tb,s.ins.map kq,s.ds.map kq,if 0<=s.ms/\s.ms<L.sc.length then (bl L s).ds.map kq else [],decide (0<=s.ms/\s.ms<L.sc.length)⟩
def Zb(s:kj)(w:ag)(e:Ending)(w':ag):Prop:=∃v,e=bL v/\qv w' v s/\Kept w w'
def jh(w:ag)(e2 g:aa)(A:gu)(n c:aa)(bA:List dh):Prop:=mm w (ae A n c) bA/\n=bA.length/\(0<n->∀b off,A=some ⟨b,off,none⟩->e2<=b/\b≠g/\b<w.heap.size)
def jh.kept{w w':ag}{e2 g:aa}{A:gu}{n c:aa}{bA:List dh}(h:jh w e2 g A n c bA)(ai:Kept w w'):jh w' e2 g A n c bA:=⟨h.1.kept ai,h.2.1,λhp b off a7=>by obtain⟨ab,ad,ao⟩:=h.2.2 hp b off a7;exact⟨ab,ad,bG ao ai.size⟩⟩
def jh.k0{w:ag}{e2 g p i:aa}{A:gu}{n c:aa}{bA:List dh}(h:jh w e2 g A n c bA)(hpg:p=g\/p<e2)(u:ak):jh (w.setCell (p,i) u) e2 g A n c bA:=by
 obtain⟨⟨pH,fF,aK,aj⟩,aH,bU⟩:=h;have Nl:=aK;simp only[i_]at aK;obtain⟨rfl,-,rfl⟩:=aK;refine⟨⟨A,c,Nl,λhp=> ?_⟩,aH,λhp b off a7=>by have:=bU hp b off a7;simpa using this⟩;obtain⟨b,off,a7,af,aq⟩:=aj hp;refine⟨b,off,a7,by simpa using af,λj x ay q v az=> ?_⟩;have hbp:b≠p:=by
  obtain⟨ab,ad,-⟩:=bU (by rw[aH];exact hp) b off a7;rcases hpg with h|h<;>omega
 rw[Db (a:=⟨b,_,none⟩) (jQ _ _ _ _ hbp)];exact aq j x ay q v az
def jh.kZ{w:ag}{e2 g i:aa}{A:gu}{n c:aa}{bA:List dh}(h:jh w e2 g A n c bA)(u:ak):jh (w.setCell (g,i) u) e2 g A n c bA:=h.k0 (.inl rfl) u
def Ha{w:ag}{B e2 g n c:aa}{A:gu}{bA:List dh}(h:cb w B 94 lq 2 (ae A n c) bA)(av:e2<=B)(al:g<B\/w<=g)(aH:bA.length=n):jh w e2 g A n c bA:=by
 have aC:=h.jx S0;rcases h.SL with⟨he,cr⟩|⟨ju,fF,he,-,-,bc,aN,-⟩
 .simp only[i_]at he;obtain⟨rfl,rfl,rfl⟩:=he;exact⟨aC,aH.symm,λhp=>absurd hp (by omega)⟩
 .simp only[i_]at he;obtain⟨rfl,-,rfl⟩:=he;refine⟨aC,aH.symm,λ_ b off a7=> ?_⟩;simp only[vF,wJ]at a7;omega
def V2{w:ag}{B:aa}{v:ak}{bA:List dh}(h:cb w B 94 lq 2 v bA):∃A c,v=ae A bA c:=by
 obtain⟨A,c,aK,-⟩:=h.form;exact⟨A,c,aK⟩
def aoP(cm:ak)(l:cO)(q:aa)(s:cq)(w:ag)(bE:h1 w cm l)(az:l.sc[q]?=some s):bg 120 #[cm,q] w (Zb (qa l s) w):=by
 obtain⟨dw,cM,cH,rfl,ar,ab,ad⟩:=bE;have cW:=I (λw1(h:Kept w w1)=>(Qw ar).kept h);have c8:=I (λw1(h:Kept w w1)=>ab.kept ld.kept h);obtain⟨c5,eW,rfl,-⟩:=id ar;obtain⟨cV,cX,rfl,-⟩:=id ab;obtain⟨hM,fJ,rfl,-,ot,wo⟩:=id ad;have RB:=(b2 az).1;obtain⟨b,off,rfl,af,aq⟩:=wo (by omega);obtain⟨⟨t0,-⟩,⟨t1,c9⟩,⟨_,t2,b6⟩,⟨_,t3,cY⟩,⟨_,t4,ja⟩⟩:=aq q _ az;have KC:=I (λw1(h:Kept w w1)=>VY _ s.ins w1 (b6.kept jt.kept h));have T2:=I (λw1(h:Kept w w1)=>VY _ s.ds w1 (cY.kept jt.kept h));unfold V7 at KC T2;obtain⟨eh,fR,rfl,-⟩:=id b6;obtain⟨kO,DM,rfl,-⟩:=id cY;obtain⟨sC,DN,rfl,-⟩:=id ja;have yj:Hid (l.ms.length=l.bs.length):=I (er _);obtain⟨By,WA⟩:∃By,By=qa l s:=⟨_,rfl⟩;rw[<-WA];have w3:=I WA;unfold g' at t0 t1 t2 t3 t4;have wg:(q:J)<l.sc.length:=by omega
 have ct:=I aq;have dY:=I (rfl:s.ins.length=s.ins.length);generalize AA:s.aM=aM at*;generalize jW:s.ms=iB at*;generalize s7:s.ins.length=cC at*;generalize y7:s.ds.length=ei at*;generalize s.rs.length=jb at*;generalize acu:l.sc.length=fO at*;generalize uX:l.bs.length=dS at*;generalize wb:l.tb.length=dd at*;have q6:=I s7;have j5:=I y7;have pN:=I jW;clear ar ab ad b6 cY ja wo aq WA s7 y7 uX wb AA jW dY;go_enter func120,ntmps120
 go_upto_region 1 with fail
 generalize aL:(w.alloc _).alloc _=W at*;obtain⟨bp,bh,bm⟩:=Kept.a_ aL;clear aL;obtain⟨aY,bq⟩:=bh.p;have eU:=bp.aI af t0;have dr:=bp.aI af t1;have eV:=bp.aI af t2;have jP:=bp.aI af t3;have pF:=bp.aI af t4;have hE:=bG af bp.size;go_upto_region 2 with fail
 generalize aL:W.alloc _=V at*;obtain⟨hz,cP⟩:=Kept.aQ aL;clear aL;have gN:=bh.kept hz;have df:=bm.kept hz;have eO:=bp.trans hz;have hg5:w.heap.size+1<W:=bm.lt;clear aY bq eU dr eV jP pF bh bm bp;clear hz;generalize W.heap.size=g5 at*;have gO:=I eO;have uA:=I gN;have zO:=I df;have HC3:=I cP;have hgV:=cP.lt;go_cut [6] (λt cj=>∃(g:aa)(dm dx:gu)(d1 d2:aa),t= .pointer (some (g,0))/\Kept V cj/\V<=g/\aB cj g 228 #[ae c5 dS eW,ae cV dd cX,ae dm cC d1,ae dx ei d2,bf,bR false]/\jh cj V g dm cC d1 (s.ins.map kq)/\jh cj V g dx ei d2 (s.ds.map kq))
 case first=>
  have eF:=I (show∀X,Kept V X->(Kept V X/\aU X (w,0)=some (ae c5 dS eW)/\aU X (w,1)=some (ae cV dd cX)/\aU X (g5,2)=some (ae eh cC fR)/\aU X (g5,3)=some (ae kO ei DM))from λX h=>⟨h,(gN.kept h).cell 0,(gN.kept h).cell 1,(cP.kept h).cell 2,(cP.kept h).cell 3⟩);obtain⟨-,z0,fL,z2,z3⟩:=eF.out V (aG _);clear gN df cP eO;go_region_held3 (λX=>Kept V X/\aU X (w,0)=some (ae c5 dS eW)/\aU X (w,1)=some (ae cV dd cX)/\aU X (g5,2)=some (ae eh cC fR)/\aU X (g5,3)=some (ae kO ei DM))
   ((refine eF _ ?_;(with_reducible repeat (first|exact .refl _|assumption|refine .drew ?_|refine .alloc ?_ _|refine .setCell ?_ (by simp only;omega) _|refine .trans ?_ ‹Kept _ _›))))
   ((first
    |(go_at_call_of 145 (Value.slice eh cC fR);refine (KC _ (gO.trans ?_)).mono ?_;(·(with_reducible first|exact (aG _).drew|exact (aG _).aZ.drew));rintro e eK⟨v1,rfl,cG,ck⟩;have yp:=I cG;obtain⟨dm,d1,Eh⟩:=V2 cG;rw[er,q6]at Eh;subst Eh;clear cG;have K7:Kept V eK:=(by (with_reducible first|exact (aG _).drew.trans ck|exact (aG _).aZ.drew.trans ck));have uf:=K7.size;(try (have K':=(aB.drew (aB.new _ 228 #[bf,bf,bf,bf,bf,bR false])).kept ck;have m4c:=K'.cell;have m4l:=K'.lt;have m4f:=K'.frozen)))
    |(go_at_call_of 145 (Value.slice kO ei DM);refine (T2 _ (gO.trans ?_)).mono ?_;(·(with_reducible first|exact K7|exact K7.aZ));rintro e c4⟨v2,rfl,eM,cy⟩;have UC:=I eM;obtain⟨dx,d2,CA⟩:=V2 eM;rw[er,j5]at CA;subst CA;clear eM;have pP:Kept V c4:=(by (with_reducible first|exact K7.trans cy|exact K7.aZ.trans cy));have CW:=pP.size;(try (have jg:=(aB.new _ 228 #[bf,bf,bf,bf,bf,bR false]).kept cy;have GQ:=jg.cell;have GS:=jg.lt;have GR:=jg.frozen));(try (have jg:=K'.kept cy;have GQ:=jg.cell;have GS:=jg.lt;have GR:=jg.frozen)))))
  .rename_i hHeld;clear hHeld;go_wp2_with fail
   go_meet;refine⟨c4.heap.size,dm,dx,d1,d2,rfl,pP.alloc _,CW,aB.new _ _ _,?_,?_⟩
   .exact (Ha (cb.lk yp cy) (by first|omega|(simp<;>omega)) (.inr (bB _)) (by rw[er,q6])).kept ((aG _).alloc _)
   .exact (Ha UC (by first|omega|(simp<;>omega)) (.inr (bB _)) (by rw[er,j5])).kept ((aG _).alloc _)
  .rename_i hHeld;clear hHeld;go_wp2_with fail
   go_meet;refine⟨eK.heap.size,dm,dx,d1,d2,rfl,?_,uf,?_,?_,?_⟩
   .repeat refine Kept.setCell ?_ (by simp only;omega) _
    exact pP
   .have:=(((((jg.ba 0 (ae c5 dS eW)).ba 1 (ae cV dd cX)).ba 2 (ae dm cC d1)).ba 3 (ae dx ei d2)).ba 4 bf).ba 5 (bR false);simpa using this
   .refine jh.kZ (jh.kZ (jh.kZ (jh.kZ (jh.kZ (jh.kZ ?_ _) _) _) _) _) _;exact (Ha yp (by first|omega|(simp<;>omega)) (.inr (bB _)) (by rw[er,q6])).kept (Kept.trans ((aG eK).alloc _) cy)
   .refine jh.kZ (jh.kZ (jh.kZ (jh.kZ (jh.kZ (jh.kZ ?_ _) _) _) _) _) _;exact Ha UC (by first|omega|(simp<;>omega)) (.inl (by simp)) (by rw[er,j5])
  .rename_i hHeld;clear hHeld;have p3:V<eK.heap.size:=K'.lt;go_wp2_with fail
   go_meet;refine⟨V.heap.size,dm,dx,d1,d2,rfl,?_,bB _,?_,?_,?_⟩
   .repeat refine Kept.setCell ?_ (by simp only;omega) _
    exact pP
   .have:=(((((jg.ba 0 (ae c5 dS eW)).ba 1 (ae cV dd cX)).ba 2 (ae dm cC d1)).ba 3 (ae dx ei d2)).ba 4 bf).ba 5 (bR false);simpa using this
   .refine jh.kZ (jh.kZ (jh.kZ (jh.kZ (jh.kZ (jh.kZ ?_ _) _) _) _) _) _;exact (Ha yp (by first|omega|(simp<;>omega)) (.inl (by simp)) (by rw[er,q6])).kept cy
   .refine jh.kZ (jh.kZ (jh.kZ (jh.kZ (jh.kZ (jh.kZ ?_ _) _) _) _) _) _;exact Ha UC (by first|omega|(simp<;>omega)) (.inl p3) (by rw[er,j5])
 case rest=>
  obtain⟨g,dm,dx,d1,d2,rfl,p7,arY,TJ,qx,pd⟩:=hcut;generalize wc=X at*;have dO:=uA.kept p7;have jr:=HC3.kept p7;have fb:=gO.trans p7;have hVX:=p7.size;obtain⟨aQ,m1⟩:=dO.p;obtain⟨cv,m3⟩:=jr.p;obtain⟨avo,auE⟩:=TJ.p;have OS:=I TJ;have KW:=I qx;have n6:=I pd;have uB:=I (zO.kept p7);clear TJ qx pd dO jr uA zO HC3 p7 KC T2;have yx:∀(Y:ag)(v4:ak)(ni:Bool)(bA:List dh),By.md=bA->By.hm=ni->Kept w Y->jh Y V g dm cC d1 (s.ins.map kq)->jh Y V g dx ei d2 (s.ds.map kq)->mm Y v4 bA->Zb By w (bL (aF #[ae c5 dS eW,ae cV dd cX,ae dm cC d1,ae dx ei d2,v4,bR ni])) Y:=λY v4 ni bA ab ad ai t1 t2 t4=>by
   subst ab ad;refine⟨_,rfl,⟨_,_,_,_,_,rfl,?_,?_,?_,?_,t4⟩,ai⟩
   .rw[w3];exact cW Y ai
   .rw[w3];exact c8 Y ai
   .rw[w3];exact t1.1
   .rw[w3];exact t2.1
  have KP:=I yx;clear yx;have kE:w.heap.size+1<V:=by omega
  by_cases Ax:0<=iB/\iB<fO
  case neg=>
   have Bk:Hid (By.md=[]/\By.hm=false):=I (by
    rw[w3];unfold qa;rw[pN,acu];exact⟨aw Ax,jC Ax⟩)
   have atF:=uB.cell;have avy:=uB.lt;have avt:=uB.frozen;have OK:=(((((uB.ba 0 (ae c5 dS eW)).ba 1 (ae cV dd cX)).ba 2 (ae dm cC d1)).ba 3 (ae dx ei d2)).ba 4 bf).ba 5 (bR false);have Dy:Kept w ((((((X.setCell ⟨w.heap.size+1,0,none⟩ (ae c5 dS eW)).setCell ⟨w.heap.size+1,1,none⟩ (ae cV dd cX)).setCell ⟨w.heap.size+1,2,none⟩ (ae dm cC d1)).setCell ⟨w.heap.size+1,3,none⟩ (ae dx ei d2)).setCell ⟨w.heap.size+1,4,none⟩ bf).setCell ⟨w.heap.size+1,5,none⟩ (bR false)):=by
    repeat refine Kept.setCell ?_ (by simp only;omega) _
    exact fb
   have TZ1:=(((((KW.k0 (i:=0) (.inr kE) (ae c5 dS eW)).k0 (i:=1) (.inr kE) (ae cV dd cX)).k0 (i:=2) (.inr kE) (ae dm cC d1)).k0 (i:=3) (.inr kE) (ae dx ei d2)).k0 (i:=4) (.inr kE) bf).k0 (i:=5) (.inr kE) (bR false);have TZ2:=(((((n6.k0 (i:=0) (.inr kE) (ae c5 dS eW)).k0 (i:=1) (.inr kE) (ae cV dd cX)).k0 (i:=2) (.inr kE) (ae dm cC d1)).k0 (i:=3) (.inr kE) (ae dx ei d2)).k0 (i:=4) (.inr kE) bf).k0 (i:=5) (.inr kE) (bR false);have e5:=OK.cell;have cE:=I (KP _ bf false [] Bk.1 Bk.2 Dy TZ1 TZ2 (hP.nil _ _ _));have HBZ:=I e5;clear OK Dy TZ1 TZ2 e5;rcases Decidable.em (iB<0)with ar|ar
   case' inr=>have ab:(fO:J)<=iB:=by omega
   all_goals
    go_wp2_with fail
    have e5:=HBZ.out;exact bI (v:=aF #[ae c5 dS eW,ae cV dd cX,ae dm cC d1,ae dx ei d2,bf,bR false]) (by simp[results,results120,go_sem,e5]) rfl cE
  obtain⟨k,ai⟩:∃k:aa,iB=k:=⟨iB.toNat,by omega⟩;have l8:k<l.sc.length:=by omega
  have Jb:l.sc[k]?=some l.sc[k]:=bn l8;have Bk:Hid (By.md=(l.sc[k]).ds.map kq/\By.hm=true):=I (by
   rw[w3];unfold qa;rw[pN,acu];refine⟨?_,jR Ax⟩;dsimp only;rw[aP Ax];unfold bl;rw[pN,aP Ax.1,ai,c7,Jb,b9])
  obtain⟨-,-,-,⟨_,f3,hMD⟩,-⟩:=ct.out k _ Jb;unfold g' at f3;have HFM:=I (λw1(h:Kept w w1)=>VY _ (l.sc[k]).ds w1 (hMD.kept jt.kept h));unfold V7 at HFM;obtain⟨ff,ih,rfl,-⟩:=hMD;generalize (l.sc[k]).ds=NJ at*;generalize NJ.length=eE at*;replace f3:=fb.aI af f3;have Q2:=bG af fb.size;have lF:(k:J)<fO:=by omega
  have pj:w.heap.size+1≠g:=by omega
  subst ai;have lW:=I auE;clear Jb Ax hE t0 t1 t2 t3 t4;go_upto_region 5 with (go_at_call 145;refine (HFM _ fb).mono ?_;rintro e dc⟨v3,rfl,p6,ey⟩;have HZ3:=I p6;obtain⟨dq,d3,rfl⟩:=V2 p6;generalize uW:(NJ.map kq).length=ia at*;have yk:=I uW;clear p6 uW;have dr:=(OS.kept ey).cell;have eV:=(OS.kept ey).lt;have jP:=(OS.kept ey).frozen)
  have la:=fb.trans ey;have qx:=I (((((((((KW.kept ey).kZ (i:=4) (ae dq ia d3)).kZ (i:=5) (bR true)).k0 (i:=0) (.inr kE) (ae c5 dS eW)).k0 (i:=1) (.inr kE) (ae cV dd cX)).k0 (i:=2) (.inr kE) (ae dm cC d1)).k0 (i:=3) (.inr kE) (ae dx ei d2)).k0 (i:=4) (.inr kE) (ae dq ia d3)).k0 (i:=5) (.inr kE) (bR true));have pd:=I (((((((((n6.kept ey).kZ (i:=4) (ae dq ia d3)).kZ (i:=5) (bR true)).k0 (i:=0) (.inr kE) (ae c5 dS eW)).k0 (i:=1) (.inr kE) (ae cV dd cX)).k0 (i:=2) (.inr kE) (ae dm cC d1)).k0 (i:=3) (.inr kE) (ae dx ei d2)).k0 (i:=4) (.inr kE) (ae dq ia d3)).k0 (i:=5) (.inr kE) (bR true));have re:=I (((((((((Ha HZ3 hVX (.inl lW) yk).kZ (i:=4) (ae dq ia d3)).kZ (i:=5) (bR true)).k0 (i:=0) (.inr kE) (ae c5 dS eW)).k0 (i:=1) (.inr kE) (ae cV dd cX)).k0 (i:=2) (.inr kE) (ae dm cC d1)).k0 (i:=3) (.inr kE) (ae dx ei d2)).k0 (i:=4) (.inr kE) (ae dq ia d3)).k0 (i:=5) (.inr kE) (bR true));have OK:=I (((((((((uB.kept ey).far (p:=⟨g,4,none⟩) pj (ae dq ia d3)).far (p:=⟨g,5,none⟩) pj (bR true)).ba 0 (ae c5 dS eW)).ba 1 (ae cV dd cX)).ba 2 (ae dm cC d1)).ba 3 (ae dx ei d2)).ba 4 (ae dq ia d3)).ba 5 (bR true)).cell;have Dy:Kept w ((((((((dc.setCell ⟨g,4,none⟩ (ae dq ia d3)).setCell ⟨g,5,none⟩ (bR true)).setCell ⟨w.heap.size+1,0,none⟩ (ae c5 dS eW)).setCell ⟨w.heap.size+1,1,none⟩ (ae cV dd cX)).setCell ⟨w.heap.size+1,2,none⟩ (ae dm cC d1)).setCell ⟨w.heap.size+1,3,none⟩ (ae dx ei d2)).setCell ⟨w.heap.size+1,4,none⟩ (ae dq ia d3)).setCell ⟨w.heap.size+1,5,none⟩ (bR true)):=by
   repeat refine Kept.setCell ?_ (by simp only;omega) _
   exact la
  have cE:=I (KP _ (ae dq ia d3) true (NJ.map kq) Bk.1 Bk.2 Dy qx pd re.1);have atF:=((uB.kept ey).far (p:=⟨g,4,none⟩) pj (ae dq ia d3)).far (p:=⟨g,5,none⟩) pj (bR true);obtain⟨ezc,ezl,ezf⟩:=atF.q;have eg2:=(((OS.kept ey).ba 4 (ae dq ia d3)).ba 5 (bR true)).cell;clear Dy qx pd re;go_wp2_with fail
  have e5:=OK.out;exact bI (v:=aF #[ae c5 dS eW,ae cV dd cX,ae dm cC d1,ae dx ei d2,ae dq ia d3,bR true]) (by simp[results,results120,go_sem,e5]) rfl cE
end Go.Proofs.YtilhklpfkgbikaaGreatDoor
