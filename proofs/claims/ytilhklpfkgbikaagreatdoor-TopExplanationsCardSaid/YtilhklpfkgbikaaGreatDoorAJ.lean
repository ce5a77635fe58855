import Derived.Test.YtilhklpfkgbikaaGreatDoorAI
set_option linter.all false
namespace Go.Proofs.YtilhklpfkgbikaaGreatDoor
open Go.RowKit Go.Proofs.Tryz
set_option maxRecDepth 100000
set_option maxHeartbeats 16000000
def SW{α:Type}{k:aa}{P:ag->aa->aa->α->Prop}{w:ag}{g:aa}{x:α}(al:g<w)(h:P w g 0 x):c0 k P w (.slice (some (g,0)) 1 1) [x]:=
 ⟨some ⟨g,0,none⟩,1,rfl,bB _,by simp,λ_=>⟨g,0,rfl,al,λj y ay=>by
  match j,ay with
  |0,ay=>cases ay;rw[vA];exact h⟩⟩
def ae6{α:Type}{k:aa}{P:ag->aa->aa->α->Prop}{w:ag}:c0 k P w bf []:=⟨none,0,rfl,bB _,by simp,λh=>absurd h (by simp)⟩
def apy(w:ag):iU w bf []:=⟨hP.nil w _ _,by simp,λx h=>by cases h⟩
def ae5{w:ag}{g T:aa}{x:cw}(h:aB w g T #[x.o,x.n])(aj: -9223372036854775808<=x.n/\x.n<=9223372036854775807):iU w (.slice (some (g,0)) 1 1) [x]:=
 ⟨⟨some ⟨g,0,none⟩,1,rfl,λ_=>⟨g,0,rfl,h.lt,λj y ay i u hu=>by
  match j,ay with
  |0,ay=>
   cases ay;match i,hu with
   |0,hu=>cases hu;exact h.cell 0
   |1,hu=>cases hu;exact h.cell 1⟩⟩,by simp,λy bZ=>by rw[kb.1 bZ];exact aj⟩
def apz{w:ag}{g6 g7 g8 g9 auf aug auh aui:aa}{x:cw}{v:ak}(aK:iU w v [x])(e7:aB w g6 auf #[.string ⟨#[97]⟩,ah 3,()])(o4:aB w g7 aug #[.string ⟨#[100]⟩,ah 3,()])(ga:aB w g8 auh #[.string ⟨#[98,97,115,101]⟩,(),ah (-1),(),(),ah 109573,bf,v,.string ⟨#[]⟩])(iw:aB w g9 aui #[.string ⟨#[104,111,117,115,101]⟩,ah (-1),ae (some (g6,0)) 1 1,ae (some (g7,0)) 1 1,ae (some (g8,0)) 1 1]):
  h1 w (aF #[bf,bf,ae (some (g9,0)) 1 1]) (nz x):=by
 have z:∀n:J,n=0\/n=3\/n= -1\/n=109573-> -9223372036854775808<=n/\n<=9223372036854775807:=λn h=>by omega
 refine⟨_,_,_,rfl,ae6,ae6,SW iw.lt ⟨⟨iw.cell 0,show (⟨#[104,111,117,115,101]⟩:ez).size<=140737488355328 from by decide⟩,⟨iw.cell 1,z _ (by simp[ES])⟩,⟨_,iw.cell 2,SW e7.lt ⟨⟨e7.cell 0,show (⟨#[97]⟩:ez).size<=140737488355328 from by decide⟩,⟨e7.cell 1,z _ (by simp[wE])⟩,⟨e7.cell 2,z _ (by simp[wE])⟩⟩⟩,
  ⟨_,iw.cell 3,SW o4.lt ⟨⟨o4.cell 0,show (⟨#[100]⟩:ez).size<=140737488355328 from by decide⟩,⟨o4.cell 1,z _ (by simp[wE])⟩,⟨o4.cell 2,z _ (by simp[wE])⟩⟩⟩,
  ⟨_,iw.cell 4,SW ga.lt ⟨⟨ga.cell 0,show (⟨#[98,97,115,101]⟩:ez).size<=140737488355328 from by decide⟩,⟨ga.cell 1,z _ (by simp[G9])⟩,⟨ga.cell 2,z _ (by simp[G9])⟩,⟨ga.cell 3,z _ (by simp[G9])⟩,⟨ga.cell 4,z _ (by simp[G9])⟩,⟨ga.cell 5,z _ (by simp[G9])⟩,⟨_,ga.cell 6,apy w⟩,⟨_,ga.cell 7,aK⟩,⟨ga.cell 8,show (⟨#[]⟩:ez).size<=140737488355328 from by decide⟩⟩⟩⟩⟩
def ae4(l:cO)(w:ag)(e:Ending)(w':ag):Prop:=∃g,e=bL (aF #[bf,bf,ae (some ⟨g,0,none⟩) 1 1])/\h1 w' (aF #[bf,bf,ae (some ⟨g,0,none⟩) 1 1]) l/\Kept w w'
def ae7(v:ak)(x:cw)(w:ag)(e:Ending)(w':ag):Prop:=∃g,e=bL (aF #[bf,bf,ae (some ⟨g,0,none⟩) 1 1])/\Kept w w'/\∀X:ag,(∀b,w.heap.size<b->b<w'.heap.size->X.heap[b]?=w'.heap[b]?)->iU X v [x]->h1 X (aF #[bf,bf,ae (some ⟨g,0,none⟩) 1 1]) (nz x)
def apA{w:ag}{g T:aa}{x:bC}(h:aB w g T #[x.k,x.e,x.n]):ft w (.slice (some (g,0)) 1 1) [x]:=
 ⟨some ⟨g,0,none⟩,1,rfl,λ_=>⟨g,0,rfl,h.lt,λj y ay i u hu=>by
  match j,ay with
  |0,ay=>
   cases ay;match i,hu with
   |0,hu=>cases hu;exact h.cell 0
   |1,hu=>cases hu;exact h.cell 1
   |2,hu=>cases hu;exact h.cell 2⟩⟩
def Zo{w X:ag}{g T:aa}{a b c:ak}(B:aB X g T #[a,b,c])(ai:Kept w X)(al:w<=g)(x y z:ak):aB (((X.setCell (g,0) x).setCell (g,1) y).setCell (g,2) z) g T #[x,y,z]/\Kept w (((X.setCell (g,0) x).setCell (g,1) y).setCell (g,2) z):=by
 refine⟨?_,?_⟩
 .have:=((B.ba 0 x).ba 1 y).ba 2 z;simpa using this
 .repeat refine Kept.setCell ?_ (by simp only;omega) _
  exact ai
def apB(v:ak)(x:cw)(w:ag)(aK:iU w v [x]):bg 28 #[v] w (ae7 v x w):=by
 obtain⟨A,c,rfl,-⟩:=id aK.1;clear aK;simp only[hi,sB];go_enter func28,ntmps28
 go_upto_region 3 with fail
 generalize aL:((w.alloc _).alloc _).alloc _=W at*;obtain⟨aV,bm,cP,fH⟩:=Kept.cv aL;clear aL;have oq:=bm.lt;obtain⟨bu,dW⟩:=cP.p;go_upto_region 4 with fail
 generalize aL:W.alloc _=V at*;obtain⟨hz,hq⟩:=Kept.aQ aL;clear aL;have ca:=aV.trans hz;have fh:=bm.kept hz;have kA:=fH.kept hz;clear bu dW bm cP fH;clear hz;generalize W.heap.size=g5 at*;obtain⟨b4,gz⟩:=kA.p;obtain⟨b_,gA⟩:=hq.p;obtain⟨a',b5,f2⟩:=fh.q;have fb:Kept V ((((V.alloc (.cells #[.string ⟨#[97]⟩,ah 3,()] 113)).alloc (.cells #[.string ⟨#[100]⟩,ah 3,()] 113)).alloc (.cells #[.string ⟨#[98,97,115,101]⟩,(),ah (-1),(),(),ah 109573,bf,ae A 1 c,.string ⟨#[]⟩] 138)).alloc (.cells #[.string ⟨#[104,111,117,115,101]⟩,ah (-1),ae (some (V,0)) 1 1,ae (some (V.heap.size+1,0)) 1 1,ae (some (V.heap.size+1+1,0)) 1 1] 89)):=((((aG V).alloc _).alloc _).alloc _).alloc _;obtain⟨OM,ON,Fc,qp⟩:=Kept.ee (aG ((((V.alloc (.cells #[.string ⟨#[97]⟩,ah 3,()] 113)).alloc (.cells #[.string ⟨#[100]⟩,ah 3,()] 113)).alloc (.cells #[.string ⟨#[98,97,115,101]⟩,(),ah (-1),(),(),ah 109573,bf,ae A 1 c,.string ⟨#[]⟩] 138)).alloc (.cells #[.string ⟨#[104,111,117,115,101]⟩,ah (-1),ae (some (V,0)) 1 1,ae (some (V.heap.size+1,0)) 1 1,ae (some (V.heap.size+1+1,0)) 1 1] 89)));have f9:=(fh.kept fb).frozen;have ri:=(fh.kept fb).cell;have cE:=I (Zo (fh.kept fb) (ca.trans fb) (bB _) bf bf (ae (some (V.heap.size+1+1+1,0)) 1 1));have cp:=I (ca.trans fb);have cW:=I (bb OM (bb ON (bb Fc qp)));have CA:=ca.size;have HSZ:=I (show w<V.heap.size from b5);clear aV ca fb fh kA hq OM ON Fc qp;go_wp2_with fail
 have e5:=cE.1.cell;obtain⟨OM,ON,Fc,qp⟩:=cW.out;have bU:=HSZ.out;have atm:=((OM.far (p:=⟨w.heap.size,0,none⟩) (by simp only;omega) bf).far (p:=⟨w.heap.size,1,none⟩) (by simp only;omega) bf).far (p:=⟨w.heap.size,2,none⟩) (by simp only;omega) (ae (some (V.heap.size+1+1+1,0)) 1 1);have atn:=((ON.far (p:=⟨w.heap.size,0,none⟩) (by simp only;omega) bf).far (p:=⟨w.heap.size,1,none⟩) (by simp only;omega) bf).far (p:=⟨w.heap.size,2,none⟩) (by simp only;omega) (ae (some (V.heap.size+1+1+1,0)) 1 1);have ato:=((Fc.far (p:=⟨w.heap.size,0,none⟩) (by simp only;omega) bf).far (p:=⟨w.heap.size,1,none⟩) (by simp only;omega) bf).far (p:=⟨w.heap.size,2,none⟩) (by simp only;omega) (ae (some (V.heap.size+1+1+1,0)) 1 1);have atp:=((qp.far (p:=⟨w.heap.size,0,none⟩) (by simp only;omega) bf).far (p:=⟨w.heap.size,1,none⟩) (by simp only;omega) bf).far (p:=⟨w.heap.size,2,none⟩) (by simp only;omega) (ae (some (V.heap.size+1+1+1,0)) 1 1);exact bI (v:=aF #[bf,bf,ae (some (V.heap.size+1+1+1,0)) 1 1]) (by simp[results,results28,go_sem,e5]) rfl
  ⟨_,rfl,cE.2,λX bk cd=>apz cd ((bk _ (by omega) atm.lt).trans atm) ((bk _ (by omega) atn.lt).trans atn) ((bk _ (by omega) ato.lt).trans ato) ((bk _ (by omega) atp.lt).trans atp)⟩
def aly(w:ag):bg 15 #[] w (ae4 (nz oX) w):=by
 have c8:=I (λ(v:ak)w1(h:iU w1 v [oX])=>apB v oX w1 h);unfold ae7 at c8;go_enter func15,ntmps15
 go_upto_region 1 with fail
 generalize aL:w.alloc _=W at*;obtain⟨aV,bo⟩:=Kept.aQ aL;clear aL;have yq:=(aG W).alloc (.cells #[ah 7,()] 101);have b3:=I (show iU (W.alloc (.cells #[ah 7,()] 101)) (ae (some (W,0)) 1 1) [oX]from ae5 (aB.new W 101 #[ah 7,()]) (by decide));have j5:=I (aB.new W 101 #[ah 7,()]);have dv:=I (bo.kept yq);have cp:=I (aV.trans yq);have n7:=I bo.lt;clear aV bo yq;go_wp2_with (go_at_call 28;refine (c8 _ _ b3).mono ?_;rintro aQ w1⟨g,rfl,au,bE⟩;have dB:=I bE;have uz:=I (j5.kept au);have kD:=dv.kept au;have cK:=kD.cell;have cR:=kD.lt;have f0:=kD.frozen;have cE:=I (Zo kD (cp.trans au) (bB _) bf bf (ae (some (g,0)) 1 1));clear bE kD)
 have e5:=cE.1.cell;exact bI (v:=aF #[bf,bf,ae (some (g,0)) 1 1]) (by simp[results,results15,go_sem,e5]) rfl ⟨g,rfl,dB _ (λb af _=>by
  have bU:b≠w.heap.size:=by have:=n7.out;simp at af;omega
  rw[jQ _ ⟨w.heap.size,2,none⟩ _ b bU,jQ _ ⟨w.heap.size,1,none⟩ _ b bU,jQ _ ⟨w.heap.size,0,none⟩ _ b bU]) (ae5 (x:=oX) (T:=101) (by
  have:=n7.out;exact ((uz.far (p:=⟨w.heap.size,0,none⟩) (by simp only;omega) bf).far (p:=⟨w.heap.size,1,none⟩) (by simp only;omega) bf).far (p:=⟨w.heap.size,2,none⟩) (by simp only;omega) (ae (some (g,0)) 1 1)) (by decide)),cE.2⟩
def ae3(n:J)(w:ag)(e:Ending)(w':ag):Prop:=∃g,e=bL (aF #[(),ae (some ⟨g,0,none⟩) 1 1,bf])/\ft w' (ae (some ⟨g,0,none⟩) 1 1) [⟨3,0,n⟩]/\Kept w w'
def alx(n:J)(w:ag):bg 16 #[n] w (ae3 n w):=by
 go_enter func16,ntmps16
 go_upto_region 1 with fail
 generalize aL:w.alloc _=W at*;obtain⟨aV,bo⟩:=Kept.aQ aL;clear aL;obtain⟨cK,hw,f0⟩:=bo.q;have eb:=Zo bo aV (bB _) () (ae (some (W,0)) 1 1) bf;have cE:=I (bb (eb.1.alloc (.cells #[ah 3,(),n] 34)) (eb.2.alloc (.cells #[ah 3,(),n] 34)));have dv:=I (show aB ((((W.setCell ⟨w.heap.size,0,none⟩ ()).setCell ⟨w.heap.size,1,none⟩ (ae (some (W,0)) 1 1)).setCell ⟨w.heap.size,2,none⟩ bf).alloc (.cells #[ah 3,(),n] 34)) W 34 #[ah 3,(),n]from by
  have:=aB.new (((W.setCell ⟨w.heap.size,0,none⟩ ()).setCell ⟨w.heap.size,1,none⟩ (ae (some (W,0)) 1 1)).setCell ⟨w.heap.size,2,none⟩ bf) 34 #[ah 3,(),n];simpa using this)
 clear eb;clear aV bo;go_wp2_with fail
 have e5:=cE.1.cell;exact bI (v:=aF #[(),ae (some (W,0)) 1 1,bf]) (by simp[results,results16,go_sem,e5]) rfl ⟨W.heap.size,rfl,apA dv,cE.2⟩
def aeH(cm gX hn:ak)(l:cO)(c:gl)(w:ag)(bE:h1 w cm l)(b6:ft w gX c.ins)(bN:kh w hn c.mem):bg 4 #[cm,aF #[c.d,gX,hn]] w (DF (c.ins.length<=14/\c.mem.length<=10) w):=by
 have dB:=I (λw1(h:Kept w w1)=>aoU cm _ _ w1 (bE.kept h).ac2 (bE.kept h).alT);have ct:=I (λw1(h:Kept w w1)=>aoT c.d gX hn c.ins c.mem w1 (b6.kept h) (bN.kept h));unfold DF at dB ct⊢;obtain⟨dw,cM,cH,rfl,hD,aQ,a_⟩:=bE;obtain⟨c5,eW,rfl,-⟩:=hD;obtain⟨cV,cX,rfl,-⟩:=aQ;obtain⟨hM,fJ,rfl,-⟩:=a_;obtain⟨eh,fR,rfl,-⟩:=b6;obtain⟨ff,ih,rfl,-⟩:=bN.at_;clear bN;generalize l.bs.length=dS at*;generalize l.tb.length=dd at*;generalize l.sc.length=fO at*;go_enter func4,ntmps4
 go_upto_region 1 with fail
 generalize aL:(w.alloc _).alloc _=W at*;obtain⟨aV,bh,bm⟩:=Kept.a_ aL;clear aL;obtain⟨aY,bq⟩:=bh.p;have e8:=I aV;have eA:=I bm;clear bh bm aV;go_wp2_with (first|(go_at_call 13;refine (dB _ e8).mono ?_;rintro aQ w1⟨b,rfl,au,-⟩;have dA:=I (e8.trans au);have bW:=eA.kept au;have a':=bW.cell;have b5:=bW.lt;clear au bW;cases b)|(go_at_call 14;refine (ct _ dA).mono ?_;rintro cv ch⟨j8,rfl,bF,dI⟩;have gO:=I (dA.trans bF);have att:=I dI;clear bF dI))
 all_goals go_ret
 all_goals first
  |exact⟨_,rfl,gO,λh=>⟨(att h).1,(att h).2.1⟩⟩
  |exact⟨_,rfl,dA,λh=>by cases h⟩
def Y3(l:cO)(w:ag)(e:Ending)(w':ag):Prop:=e=bL (ah (qV l:J))/\Kept w w'
def aor{l:List cq}{i:aa}{x:cq}(h:l[i]?=some x):((l.take (i+1)).map (·.rs.length)).sum=((l.take i).map (·.rs.length)).sum+x.rs.length:=by
 rw[qZ,h,zA,k6,List.sum_append];simp
def aet(cm:ak)(l:cO)(w:ag)(bE:h1 w cm l)(af:qV l<=1000000):bg 12 #[cm] w (Y3 l w):=by
 unfold Y3;obtain⟨dw,cM,cH,rfl,hD,aQ,a_⟩:=bE;obtain⟨c5,eW,rfl,-⟩:=hD;obtain⟨cV,cX,rfl,-⟩:=aQ;obtain⟨hM,fJ,rfl,-,ru,aj⟩:=a_;have bS:=I aj;generalize l.bs.length=dS at*;generalize l.tb.length=dd at*;obtain⟨n,aH⟩:∃n,n=l.sc.length:=⟨_,rfl⟩;have hle:∀i,((l.sc.take i).map (·.rs.length)).sum<=qV l:=λi=>by
  unfold qV;have h:=congrArg (λz=>(z.map (·.rs.length)).sum) (Th i l.sc);simp only[k6,List.sum_append]at h;omega
 have HLE:=I hle;have a1:((l.sc.take n).map (·.rs.length)).sum=qV l:=by rw[aH,x3];rfl
 have cW:=I a1;generalize qV l=R at*;rw[<-aH]at ru⊢;have b3:=I aH;clear aj aH hle a1;go_enter func12,ntmps12
 go_upto_region 1 with fail
 generalize aL:w.alloc _=W at*;obtain⟨aV,bh⟩:=Kept.aQ aL;clear aL;obtain⟨aY,bq⟩:=bh.p;have cp:=I aV;clear bh aV;go_upto_region 3 with fail
 go_loopw [3,4] (λx y wr=>∃(i:aa),y=ah i/\i<=n/\x=ah (((l.sc.take i).map (·.rs.length)).sum:aa)/\wr=W) (λ_ y _=>n-(intOf y).toNat)
 case atStart=>exact⟨0,rfl,d' _,rfl,rfl⟩
 case round=>
  obtain⟨i,rfl,dG,rfl,rfl⟩:=hrel;by_cases aN:i<n
  .obtain⟨b,o,rfl,hd,aq⟩:=bS.out (by have:=b3.out;omega);obtain⟨x,al⟩:∃x,l.sc[i]?=some x:=⟨_,bn (by have:=b3.out;omega)⟩;obtain⟨-,-,-,-,⟨cD,hK,oQ⟩⟩:=aq i x al;obtain⟨eR,rc,rfl⟩:∃A c,cD=ae A x.rs.length c:=by obtain⟨A,c,e,-⟩:=oQ;exact⟨A,c,e⟩
   have hK:=cp.aI hd hK;have mw:=bG hd cp.size;have db:(i:J)<n:=by omega
   have ab:=HLE.out (i+1);have cr:=aor al;have ad:=HLE.out i;rw[cr]at ab;have c8:=I cr;clear aq al oQ cr;generalize ((l.sc.take i).map (·.rs.length)).sum=sm at*;go_wp2_with fail
   go_roundw
   case rel=>exact⟨i+1,by go_num,aN,by rw[c8];go_num,trivial⟩
   case measure=>simp[intOf];omega
  .obtain rfl:i=n:=by omega
   have db:¬((i:J)<i):=by omega
   go_wp2_with fail
   go_ret;refine⟨?_,cp⟩;have he:=cW.out;rw[<-he,E5];rfl
end Go.Proofs.YtilhklpfkgbikaaGreatDoor
