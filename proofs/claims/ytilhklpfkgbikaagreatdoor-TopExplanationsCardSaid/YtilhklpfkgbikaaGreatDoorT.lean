import Derived.Test.YtilhklpfkgbikaaGreatDoorS
set_option linter.all false
namespace Go.Proofs.YtilhklpfkgbikaaGreatDoor
open Go.RowKit Go.Proofs.Tryz
set_option maxRecDepth 100000
set_option maxHeartbeats 16000000
def aqI(o n:J)(a:aa)(bD:eP o=a)(w:ag):bg 154 #[aF #[o,n]] w λx w'=>x=bL (bR (xX ⟨o,n⟩))/\Kept w w':=by
 have ji:=λw=>afj o w;obtain⟨q,az⟩:∃q,q=zw o:=⟨_,rfl⟩;rw[<-az]at ji;have a7:=λw=>Iq o w;rw[bD]at a7;have pa:=I ji;have cI:=I a7;have aX:=I (show xX ⟨o,n⟩=decide ((n=0\/q=true)/\(14<=o->o<=16->0<=n/\n<=5)/\(o=34->0<=n/\n% 8<=5)/\(o=6->0<=n)) by
  unfold xX;rw[Hk,az];simp only[bD];constructor
  .rintro⟨_,h⟩;exact h
  .intro h;exact⟨by omega,h⟩)
 clear ji a7 bD az;have Fc:=I (λh:0<=n=>OF (a:=n) (b:=8) h);rcases (show n=0\/(¬n=0/\q=true)\/(¬n=0/\q=false) by cases q<;>simp<;>omega)with bP|⟨bP,az⟩|⟨bP,az⟩
 all_goals
  (try (subst bP))
  (try (subst az))
  go_enter func154,ntmps154
  go_wp2_with (first|(go_at_call 152;refine (cI _).mono ?_;rintro y w1⟨rfl,rfl⟩)|(go_at_call 167;refine (pa _).mono ?_;rintro y w1⟨rfl,rfl⟩))
  all_goals
   go_ret;have aJ:=aX.out;have a1:=Fc.out;clear pa cI aX Fc;exact⟨fG (by rw[aJ];clear aJ;rw[nZ];(try simp at*);(try omega)),(aG _).aZ⟩
def aaK{o:J}(h:eP o=0):(1<=o/\o<=9)\/(35<=o/\o<=39):=by
 unfold eP at h;split at h
 .assumption
 .split at h
  .omega
  .split at h
   .omega
   .split at h<;>omega
def aaL{o:J}(h:eP o=1):o=10\/o=25\/o=31\/o=32\/o=33\/o=34:=by
 unfold eP at h;split at h
 .omega
 .split at h
  .assumption
  .split at h
   .omega
   .split at h<;>omega
def aaM{o:J}(h:eP o=2):(11<=o/\o<=24)\/(27<=o/\o<=30):=by
 unfold eP at h;split at h
 .omega
 .split at h
  .omega
  .split at h
   .omega
   .split at h<;>omega
def aaN{o:J}(h:eP o=3):o=26:=by
 unfold eP at h;split at h
 .omega
 .split at h
  .omega
  .split at h
   .assumption
   .split at h<;>omega
def ag5(o n:J)(dF bK:ak)(args:List bC)(E:dT)(w:ag)(a1:je w bK E)(a7:ft w dF args)(av:(args:J)=eP o)(aH:iT n)(aA:o≠23/\o≠24/\o≠26)(hw:xX ⟨o,n⟩=true)(aj:sX ⟨o,n⟩ E=true):
  Calls prog 157 #[.agg #[o,n],dF,bK] w (rh (ix ⟨o,n⟩ args E) w):=by
 have s_:(14<=o->o<=16->0<=n/\n<=5)/\(o=34->0<=n/\n% 8<=5)/\(o=6->0<=n):=by unfold xX at hw;simp only[gg]at hw;exact hw.2.2
 unfold sX at aj;match args,av,a7 with
 |[],av,a7=>
  rcases aaK av.symm with h|h
  .by_cases hX:o=7
   .simp only[hX,k3]at aj;exact agZ o n dF bK [] E w a1 hX (by simpa using aj)
   .by_cases eI:o=8
    .simp only at aj;rw[aw hX,aP eI,nB]at aj;exact ag0 o n dF bK [] E w a1 eI aj.1
    .exact aaI o n dF bK [] E w a1 rfl a7 (by omega)
  .by_cases DW:o=35
   .exact aaI o n dF bK [] E w a1 rfl a7 (by omega)
   .simp only at aj;rw[aw (by omega),aw (by omega),aw (by omega),aw (by omega),aP (by omega)]at aj;exact ag1 o n dF bK [] E w a1 (by omega) aj
 |[a],av,a7=>
  rcases aaL av.symm with h|h|h|h|h|h
  .exact PQ o n dF bK _ E w a1 a rfl a7 (by omega)
  .exact PQ o n dF bK _ E w a1 a rfl a7 (by omega)
  .exact PQ o n dF bK _ E w a1 a rfl a7 (by omega)
  .exact PQ o n dF bK _ E w a1 a rfl a7 (by omega)
  .simp only at aj;rw[aw (by omega),aw (by omega),aP h]at aj;exact agX o n dF bK _ E w a1 a rfl a7 h aj
  .simp only at aj;rw[aw (by omega),aw (by omega),aw (by omega),aP h]at aj;exact agY o n dF bK _ E w a1 a rfl a7 h ⟨(s_.2.1 h).1,aH.2⟩ (um aj)
 |[a,b],av,a7=>exact agW o n dF bK _ E w a1 a b rfl a7 (by have:=aaM av.symm;omega)
 |[_,_,_],av,_=>exact absurd (aaN av.symm) aA.2.2
 |_::_::_::_::_,av,_=>exact absurd av (by have:=(DK o).2;simp only[hi];omega)
def aiz(o n:J)(dF bK:ak)(args:List bC)(E:dT)(w:ag)(a1:je w bK E)(a7:ft w dF args)(av:(args:J)=eP o)(aH:iT n)(aA:o≠23/\o≠24/\o≠26)(hw:xX ⟨o,n⟩=true)(aj:sX ⟨o,n⟩ E=true)(hp:args.all iv=true)(bD:ix ⟨o,n⟩ args E=true)(bN:Mon w):Calls prog 158 #[.agg #[o,n],dF,bK] w (hA (gd cz ⟨o,n⟩ args E) w):=by
 have s_:(14<=o->o<=16->0<=n/\n<=5)/\(o=34->0<=n/\n% 8<=5)/\(o=6->0<=n):=by unfold xX at hw;simp only[gg]at hw;exact hw.2.2
 unfold sX at aj;unfold ix at bD;match args,av,a7,hp,bD with
 |[],av,a7,_,_=>
  rcases aaK av.symm with h|h
  .by_cases hX:o=7
   .simp only[hX,k3]at aj;exact aio o n dF bK [] E w a1 hX (by simpa using aj)
   .by_cases eI:o=8
    .simp only at aj;rw[aw hX,aP eI,nB]at aj;exact aip o n dF bK [] E w a1 eI aj.1
    .by_cases eL:o=6
     .exact ain o n dF bK [] E w a1 eL ⟨s_.2.2 eL,aH.2⟩
     .by_cases xo:o=9
      .exact aiq o n dF bK [] E w a1 xo
      .exact air o n dF bK [] E w a1 (by omega)
  .by_cases DW:o=35
   .exact aim o n dF bK [] E w a1 DW
   .simp only at aj;rw[aw (by omega),aw (by omega),aw (by omega),aw (by omega),aP (by omega)]at aj;exact ais o n dF bK [] E w a1 (by omega) aj
 |[a],av,a7,hp,bD=>
  have bJ:iv a=true:=by simpa using hp
  rcases aaL av.symm with h|h|h|h|h|h
  .exact Qc o n dF bK _ E w a1 a rfl a7 (by omega) bJ bN
  .exact Qc o n dF bK _ E w a1 a rfl a7 (by omega) bJ bN
  .exact Qc o n dF bK _ E w a1 a rfl a7 (by omega) bJ bN
  .exact Qc o n dF bK _ E w a1 a rfl a7 (by omega) bJ bN
  .simp only at aj;rw[aw (by omega),aw (by omega),aP h]at aj;exact aik o n dF bK _ E w a1 a rfl a7 h aj
  .simp only at aj bD;rw[aw (by omega),aw (by omega),aw (by omega),aP h]at aj bD;have af:=EB bJ;refine ail o n dF bK _ E w a1 a rfl a7 h ⟨(s_.2.1 h).1,aH.2⟩ (s_.2.1 h).2 (um aj) ⟨af.1,af.2.1⟩ (λT bT=> ?_);rw[bT]at bD;simp only[b9,nB,gg]at bD;exact⟨bD.2.1.1,bD.2.1.2,bD.2.2.1,bD.2.2.2⟩
 |[a,b],av,a7,hp,bD=>
  have ad:=aaM av.symm;simp only[Hm,List.all_nil,Bool.and_true,nB]at hp;simp only at bD;rw[aw (by omega),aw (by omega),aw (by omega),aw (by omega),aw (by omega)]at bD;exact aij o n dF bK _ E w a1 a b rfl a7 (by omega) hp.1 hp.2 bD bN
 |[_,_,_],av,_,_,_=>exact absurd (aaN av.symm) aA.2.2
 |_::_::_::_::_,av,_,_,_=>exact absurd av (by have:=(DK o).2;simp only[hi];omega)
def ahe(o n:J)(dF bK:ak)(args:List bC)(E:dT)(w:ag)(a1:je w bK E)(a7:ft w dF args)(av:(args:J)=eP o)(aH:iT n)(aA:o≠23/\o≠24/\o≠26)(bN:Mon w):
  bg 134 #[aF #[o,n],dF,bK] w (hA (r6 cz ⟨o,n⟩ args E) w):=by
 have w5:=I (λw=>aqI o n args av.symm w);have pL:=I (λw=>(by rw[av];exact Iq o w:bg 152 #[o] w λe w'=>e=bL (ah (args:J))/\w=w'));have ux:=I (λw1(h:Kept w w1)=>ag2 dF args w1 (a7.kept h) (by have:=(DK o).2;omega));have h4:r6 cz ⟨o,n⟩ args E=if xX ⟨o,n⟩=false then (v0,2)
  else if sX ⟨o,n⟩ E=false then (v0,6)
  else if args.all iv=false\/ix ⟨o,n⟩ args E=false then (v0,8)
  else if (gd cz ⟨o,n⟩ args E).2≠0 then (v0,(gd cz ⟨o,n⟩ args E).2)
  else if iv (gd cz ⟨o,n⟩ args E).1=false then (v0,3)
  else ((gd cz ⟨o,n⟩ args E).1,0):=by
  unfold r6;have:((args:J)≠eP o)=False:=by rw[av];simp
  simp only[this,nd]
 have h0:=I (λw1(h:Kept w w1)=>a1.kept h);have HAV:=I (λw1(h:Kept w w1)=>a7.kept h);obtain⟨dm,aY,dx,a',dq,bu,fr,b4,e6,b_,rfl,-⟩:=a1.open_;obtain⟨x9,yN,rfl,-⟩:=a7.at_;obtain⟨R,aJ⟩:∃R,R=r6 cz ⟨o,n⟩ args E:=⟨_,rfl⟩;rw[<-aJ]at h4⊢;clear aJ;obtain⟨⟨cS,eo,di⟩,rc⟩:=R;unfold hA;have pg:((args:J) !=args.length)=false:=by simp
 cases oS:xX ⟨o,n⟩
 case false=>
  rw[oS,aP rfl]at h4;obtain⟨rfl,rfl,rfl,rfl⟩:=j2 h4;rw[oS]at w5;clear a1 a7 h4 oS;go_enter func134,ntmps134
  go_wp2_with (go_at_call 154;refine (w5 _).mono ?_;rintro y w1⟨rfl,au⟩;obtain⟨dE,jk⟩:=Kept.cells au;have cG:=au.size;(try simp at cG);have:w.heap.size<w1.heap.size:=(by omega);have:w.heap.size+1<w1.heap.size:=(by omega);have:w.heap.size+1+1<w1.heap.size:=(by omega))
  exact bI (v:=bj #[aF #[(),(),()],ah 2]) (by simp[results,results134,go_sem, *]) rfl ⟨rfl,(aG _).aZ.aZ.aZ.trans au|>.sc (by omega)|>.sc (by omega)|>.sc (by omega)⟩
 case true=>
  rw[aw (by rw[oS];decide)]at h4;rw[oS]at w5;have mi:=I (λw1(h:Kept w w1)=>ajg o n _ E w1 (a1.kept h) aH (λsZ=>by unfold xX at oS;simp only[gg]at oS;exact (oS.2.2.2.1 sZ).1))
  cases hex:sX ⟨o,n⟩ E
  case false=>
   rw[aP hex]at h4;obtain⟨rfl,rfl,rfl,rfl⟩:=j2 h4;rw[hex]at mi;clear a1 a7 h4 oS hex;go_enter func134,ntmps134
   go_wp2_with (first|(go_at_call 154;refine (w5 _).mono ?_;rintro y w1⟨rfl,au⟩;obtain⟨dE,jk⟩:=Kept.cells au;have cG:=au.size;(try simp at cG);have:w.heap.size<w1.heap.size:=(by omega);have:w.heap.size+1<w1.heap.size:=(by omega);have:w.heap.size+1+1<w1.heap.size:=(by omega))|(go_at_call 152;refine (pL _).mono ?_;rintro y w0⟨rfl,rfl⟩)|(go_at_call 155;refine (mi _ ((aG _).aZ.aZ.aZ.trans au)).mono ?_;rintro y w2⟨rfl,bt⟩;obtain⟨jj,Cg⟩:=Kept.cells bt;have eM:=bt.size;(try simp at eM);have:w.heap.size<w2.heap.size:=(by omega);have:w.heap.size+1<w2.heap.size:=(by omega);have:w.heap.size+1+1<w2.heap.size:=(by omega)))
   exact bI (v:=bj #[aF #[(),(),()],ah 6]) (by simp[results,results134,go_sem, *]) rfl ⟨rfl,(aG _).aZ.aZ.aZ.trans au|>.trans bt|>.sc (by omega)|>.sc (by omega)|>.sc (by omega)⟩
  case true=>
   rw[aw (by rw[hex];decide)]at h4;rw[hex]at mi
   cases nK:args.all iv
   case false=>
    rw[aP (.inl nK)]at h4;obtain⟨rfl,rfl,rfl,rfl⟩:=j2 h4;rw[nK]at ux;clear a1 a7 h4 oS hex nK;go_enter func134,ntmps134
    go_wp2_with (first|(go_at_call 154;refine (w5 _).mono ?_;rintro y w1⟨rfl,au⟩;obtain⟨dE,jk⟩:=Kept.cells au;have cG:=au.size;(try simp at cG);have:w.heap.size<w1.heap.size:=(by omega);have:w.heap.size+1<w1.heap.size:=(by omega);have:w.heap.size+1+1<w1.heap.size:=(by omega))|(go_at_call 152;refine (pL _).mono ?_;rintro y w0⟨rfl,rfl⟩)|(go_at_call 155;refine (mi _ ((aG _).aZ.aZ.aZ.trans au)).mono ?_;rintro y w2⟨rfl,bt⟩;obtain⟨jj,Cg⟩:=Kept.cells bt;have eM:=bt.size;(try simp at eM);have:w.heap.size<w2.heap.size:=(by omega);have:w.heap.size+1<w2.heap.size:=(by omega);have:w.heap.size+1+1<w2.heap.size:=(by omega))|(go_at_call 156;refine (ux _ ((aG _).aZ.aZ.aZ.trans au|>.trans bt)).mono ?_;rintro y ch⟨rfl,bF⟩;obtain⟨uQ,As⟩:=Kept.cells bF;have p6:=bF.size;(try simp at p6);have:w.heap.size<ch.heap.size:=(by omega);have:w.heap.size+1<ch.heap.size:=(by omega);have:w.heap.size+1+1<ch.heap.size:=(by omega)))
    exact bI (v:=bj #[aF #[(),(),()],ah 8]) (by simp[results,results134,go_sem, *]) rfl ⟨rfl,(aG _).aZ.aZ.aZ.trans au|>.trans bt|>.trans bF|>.sc (by omega)|>.sc (by omega)|>.sc (by omega)⟩
   case true=>
    have lv:=I (λw1(h:Kept w w1)=>ag5 o n _ _ args E w1 (h0 _ h) (HAV _ h) av aH aA oS hex);unfold rh at lv;rw[nK]at ux
    cases ks:ix ⟨o,n⟩ args E
    case false=>
     rw[aP (.inr ks)]at h4;obtain⟨rfl,rfl,rfl,rfl⟩:=j2 h4;rw[ks]at lv;clear a1 a7 h4 oS hex nK ks;go_enter func134,ntmps134
     go_wp2_with (first|(go_at_call 154;refine (w5 _).mono ?_;rintro y w1⟨rfl,au⟩;obtain⟨dE,jk⟩:=Kept.cells au;have cG:=au.size;(try simp at cG);have:w.heap.size<w1.heap.size:=(by omega);have:w.heap.size+1<w1.heap.size:=(by omega);have:w.heap.size+1+1<w1.heap.size:=(by omega))|(go_at_call 152;refine (pL _).mono ?_;rintro y w0⟨rfl,rfl⟩)|(go_at_call 155;refine (mi _ ((aG _).aZ.aZ.aZ.trans au)).mono ?_;rintro y w2⟨rfl,bt⟩;obtain⟨jj,Cg⟩:=Kept.cells bt;have eM:=bt.size;(try simp at eM);have:w.heap.size<w2.heap.size:=(by omega);have:w.heap.size+1<w2.heap.size:=(by omega);have:w.heap.size+1+1<w2.heap.size:=(by omega))|(go_at_call 156;refine (ux _ ((aG _).aZ.aZ.aZ.trans au|>.trans bt)).mono ?_;rintro y ch⟨rfl,bF⟩;obtain⟨uQ,As⟩:=Kept.cells bF;have p6:=bF.size;(try simp at p6);have:w.heap.size<ch.heap.size:=(by omega);have:w.heap.size+1<ch.heap.size:=(by omega);have:w.heap.size+1+1<ch.heap.size:=(by omega))|(go_at_call 157;refine (lv _ ((aG _).aZ.aZ.aZ.trans au|>.trans bt|>.trans bF)).mono ?_;rintro y eK⟨rfl,ck⟩;obtain⟨I_,WV⟩:=Kept.cells ck;have wq:=ck.size;(try simp at wq);have:w.heap.size<eK.heap.size:=(by omega);have:w.heap.size+1<eK.heap.size:=(by omega);have:w.heap.size+1+1<eK.heap.size:=(by omega)))
     exact bI (v:=bj #[aF #[(),(),()],ah 8]) (by simp[results,results134,go_sem, *]) rfl ⟨rfl,(aG _).aZ.aZ.aZ.trans au|>.trans bt|>.trans bF|>.trans ck|>.sc (by omega)|>.sc (by omega)|>.sc (by omega)⟩
    case true=>
     rw[aw (by rw[nK,ks];decide)]at h4;have HB:=I (λw1(h:Kept w w1)=>aiz o n _ _ args E w1 (h0 _ h) (HAV _ h) av aH aA oS hex nK ks (bN.kept h));unfold hA at HB;rw[ks]at lv;obtain⟨Q,cL⟩:∃Q,Q=gd cz ⟨o,n⟩ args E:=⟨_,rfl⟩;rw[<-cL]at h4 HB;clear cL;obtain⟨⟨rI,rH,atN⟩,nx⟩:=Q;dsimp only at h4 HB;have wY:=I (λw=>EC rI rH atN w);clear oS hex nK ks;by_cases aq:nx=0
     case neg=>
      have jv:(nx !=0)=true:=by simpa using aq
      rw[aP aq]at h4;obtain⟨rfl,rfl,rfl,rfl⟩:=j2 h4;clear a1 a7 h4 aq;go_enter func134,ntmps134
      go_wp2_with (first|(go_at_call 154;refine (w5 _).mono ?_;rintro y w1⟨rfl,au⟩;obtain⟨dE,jk⟩:=Kept.cells au;have cG:=au.size;(try simp at cG);have:w.heap.size<w1.heap.size:=(by omega);have:w.heap.size+1<w1.heap.size:=(by omega);have:w.heap.size+1+1<w1.heap.size:=(by omega))|(go_at_call 152;refine (pL _).mono ?_;rintro y w0⟨rfl,rfl⟩)|(go_at_call 155;refine (mi _ ((aG _).aZ.aZ.aZ.trans au)).mono ?_;rintro y w2⟨rfl,bt⟩;obtain⟨jj,Cg⟩:=Kept.cells bt;have eM:=bt.size;(try simp at eM);have:w.heap.size<w2.heap.size:=(by omega);have:w.heap.size+1<w2.heap.size:=(by omega);have:w.heap.size+1+1<w2.heap.size:=(by omega))|(go_at_call 156;refine (ux _ ((aG _).aZ.aZ.aZ.trans au|>.trans bt)).mono ?_;rintro y ch⟨rfl,bF⟩;obtain⟨uQ,As⟩:=Kept.cells bF;have p6:=bF.size;(try simp at p6);have:w.heap.size<ch.heap.size:=(by omega);have:w.heap.size+1<ch.heap.size:=(by omega);have:w.heap.size+1+1<ch.heap.size:=(by omega))|(go_at_call 157;refine (lv _ ((aG _).aZ.aZ.aZ.trans au|>.trans bt|>.trans bF)).mono ?_;rintro y eK⟨rfl,ck⟩;obtain⟨I_,WV⟩:=Kept.cells ck;have wq:=ck.size;(try simp at wq);have:w.heap.size<eK.heap.size:=(by omega);have:w.heap.size+1<eK.heap.size:=(by omega);have:w.heap.size+1+1<eK.heap.size:=(by omega))|(go_at_call 158;refine (HB _ ((aG _).aZ.aZ.aZ.trans au|>.trans bt|>.trans bF|>.trans ck)).mono ?_;rintro y c4⟨rfl,cy⟩;obtain⟨Gj,hf5⟩:=Kept.cells cy;have Ns:=cy.size;(try simp at Ns);have:w.heap.size<c4.heap.size:=(by omega);have:w.heap.size+1<c4.heap.size:=(by omega);have:w.heap.size+1+1<c4.heap.size:=(by omega)))
      exact bI (v:=bj #[aF #[(),(),()],_]) (by simp[results,results134,go_sem, *]) rfl ⟨rfl,(aG _).aZ.aZ.aZ.trans au|>.trans bt|>.trans bF|>.trans ck|>.trans cy|>.sc (by omega)|>.sc (by omega)|>.sc (by omega)|>.aZ⟩
     subst aq;rw[aw (by decide)]at h4
     cases Ji:iv ⟨rI,rH,atN⟩
     case false=>
      rw[aP Ji]at h4;obtain⟨rfl,rfl,rfl,rfl⟩:=j2 h4;rw[Ji]at wY;clear a1 a7 h4 Ji;go_enter func134,ntmps134
      go_wp2_with (first|(go_at_call 154;refine (w5 _).mono ?_;rintro y w1⟨rfl,au⟩;obtain⟨dE,jk⟩:=Kept.cells au;have cG:=au.size;(try simp at cG);have:w.heap.size<w1.heap.size:=(by omega);have:w.heap.size+1<w1.heap.size:=(by omega);have:w.heap.size+1+1<w1.heap.size:=(by omega))|(go_at_call 152;refine (pL _).mono ?_;rintro y w0⟨rfl,rfl⟩)|(go_at_call 155;refine (mi _ ((aG _).aZ.aZ.aZ.trans au)).mono ?_;rintro y w2⟨rfl,bt⟩;obtain⟨jj,Cg⟩:=Kept.cells bt;have eM:=bt.size;(try simp at eM);have:w.heap.size<w2.heap.size:=(by omega);have:w.heap.size+1<w2.heap.size:=(by omega);have:w.heap.size+1+1<w2.heap.size:=(by omega))|(go_at_call 156;refine (ux _ ((aG _).aZ.aZ.aZ.trans au|>.trans bt)).mono ?_;rintro y ch⟨rfl,bF⟩;obtain⟨uQ,As⟩:=Kept.cells bF;have p6:=bF.size;(try simp at p6);have:w.heap.size<ch.heap.size:=(by omega);have:w.heap.size+1<ch.heap.size:=(by omega);have:w.heap.size+1+1<ch.heap.size:=(by omega))|(go_at_call 157;refine (lv _ ((aG _).aZ.aZ.aZ.trans au|>.trans bt|>.trans bF)).mono ?_;rintro y eK⟨rfl,ck⟩;obtain⟨I_,WV⟩:=Kept.cells ck;have wq:=ck.size;(try simp at wq);have:w.heap.size<eK.heap.size:=(by omega);have:w.heap.size+1<eK.heap.size:=(by omega);have:w.heap.size+1+1<eK.heap.size:=(by omega))|(go_at_call 158;refine (HB _ ((aG _).aZ.aZ.aZ.trans au|>.trans bt|>.trans bF|>.trans ck)).mono ?_;rintro y c4⟨rfl,cy⟩;obtain⟨Gj,hf5⟩:=Kept.cells cy;have Ns:=cy.size;(try simp at Ns);have:w.heap.size<c4.heap.size:=(by omega);have:w.heap.size+1<c4.heap.size:=(by omega);have:w.heap.size+1+1<c4.heap.size:=(by omega))|(go_at_call 159;refine (wY _).mono ?_;rintro y dc⟨rfl,ey⟩;obtain⟨sd,hf6⟩:=Kept.cells ey;have XX:=ey.size;(try simp at XX);have:w.heap.size<dc.heap.size:=(by omega);have:w.heap.size+1<dc.heap.size:=(by omega);have:w.heap.size+1+1<dc.heap.size:=(by omega)))
      exact bI (v:=bj #[aF #[(),(),()],ah 3]) (by simp[results,results134,go_sem, *]) rfl ⟨rfl,(aG _).aZ.aZ.aZ.trans au|>.trans bt|>.trans bF|>.trans ck|>.trans cy|>.aZ.trans ey|>.sc (by omega)|>.sc (by omega)|>.sc (by omega)⟩
     case true=>
      rw[aw (by rw[Ji];decide)]at h4;obtain⟨rfl,rfl,rfl,rfl⟩:=j2 h4;rw[Ji]at wY;clear a1 a7 h4 Ji;go_enter func134,ntmps134
      go_wp2_with (first|(go_at_call 154;refine (w5 _).mono ?_;rintro y w1⟨rfl,au⟩;obtain⟨dE,jk⟩:=Kept.cells au;have cG:=au.size;(try simp at cG);have:w.heap.size<w1.heap.size:=(by omega);have:w.heap.size+1<w1.heap.size:=(by omega);have:w.heap.size+1+1<w1.heap.size:=(by omega))|(go_at_call 152;refine (pL _).mono ?_;rintro y w0⟨rfl,rfl⟩)|(go_at_call 155;refine (mi _ ((aG _).aZ.aZ.aZ.trans au)).mono ?_;rintro y w2⟨rfl,bt⟩;obtain⟨jj,Cg⟩:=Kept.cells bt;have eM:=bt.size;(try simp at eM);have:w.heap.size<w2.heap.size:=(by omega);have:w.heap.size+1<w2.heap.size:=(by omega);have:w.heap.size+1+1<w2.heap.size:=(by omega))|(go_at_call 156;refine (ux _ ((aG _).aZ.aZ.aZ.trans au|>.trans bt)).mono ?_;rintro y ch⟨rfl,bF⟩;obtain⟨uQ,As⟩:=Kept.cells bF;have p6:=bF.size;(try simp at p6);have:w.heap.size<ch.heap.size:=(by omega);have:w.heap.size+1<ch.heap.size:=(by omega);have:w.heap.size+1+1<ch.heap.size:=(by omega))|(go_at_call 157;refine (lv _ ((aG _).aZ.aZ.aZ.trans au|>.trans bt|>.trans bF)).mono ?_;rintro y eK⟨rfl,ck⟩;obtain⟨I_,WV⟩:=Kept.cells ck;have wq:=ck.size;(try simp at wq);have:w.heap.size<eK.heap.size:=(by omega);have:w.heap.size+1<eK.heap.size:=(by omega);have:w.heap.size+1+1<eK.heap.size:=(by omega))|(go_at_call 158;refine (HB _ ((aG _).aZ.aZ.aZ.trans au|>.trans bt|>.trans bF|>.trans ck)).mono ?_;rintro y c4⟨rfl,cy⟩;obtain⟨Gj,hf5⟩:=Kept.cells cy;have Ns:=cy.size;(try simp at Ns);have:w.heap.size<c4.heap.size:=(by omega);have:w.heap.size+1<c4.heap.size:=(by omega);have:w.heap.size+1+1<c4.heap.size:=(by omega))|(go_at_call 159;refine (wY _).mono ?_;rintro y dc⟨rfl,ey⟩;obtain⟨sd,hf6⟩:=Kept.cells ey;have XX:=ey.size;(try simp at XX);have:w.heap.size<dc.heap.size:=(by omega);have:w.heap.size+1<dc.heap.size:=(by omega);have:w.heap.size+1+1<dc.heap.size:=(by omega)))
      exact bI (v:=bj #[aF #[cS,eo,di],()]) (by simp[results,results134,go_sem, *]) rfl ⟨rfl,(aG _).aZ.aZ.aZ.trans au|>.trans bt|>.trans bF|>.trans ck|>.trans cy|>.aZ.trans ey|>.sc (by omega)|>.sc (by omega)|>.sc (by omega)⟩
def aeQ{e:List cw}(aK:(c' e).2.2=0):∀n k s:aa,k<=n->(c' e).1[k]?=some s->s<=k:=by
 obtain⟨_,_,hlen,iK,_⟩:=Oc aK;intro n;induction n with
 |zero=>
  intro k s ai aO;have jm:=(b2 aO).1;obtain⟨_,_,fK⟩:=iK k _ (bn (by omega));rcases fK with⟨_,h⟩|⟨_,h,_⟩|⟨_,h,_⟩|⟨_,h,_⟩
  .rw[aO]at h;have:=cJ h;omega
  .omega
  .omega
  .omega
 |succ n bO=>
  intro k s ai aO;have jm:=(b2 aO).1;obtain⟨_,_,fK⟩:=iK k _ (bn (by omega));rcases fK with⟨_,h⟩|⟨_,ab,s',ad,ao⟩|⟨_,ab,s1,s',ad,ao,aR⟩|⟨_,ab,s2,s1,s',ad,ao,aR,bw⟩
  .rw[aO]at h;have:=cJ h;omega
  .rw[aO]at ao;have:=cJ ao;have:=bO _ _ (by omega) ad;omega
  .rw[aO]at aR;have:=cJ aR;have:=bO _ _ (by omega) ad;have:=bO _ _ (by omega) ao;omega
  .rw[aO]at bw;have:=cJ bw;have:=bO _ _ (by omega) ad;have:=bO _ _ (by omega) ao;have:=bO _ _ (by omega) aR;omega
def sl(l:aW):ho:=(l.map (Value.int .i64)).toArray
def Jw{l:aW}{i:aa}{n:J}(h:l[i]?=some n):(sl l)[i]?=some (ah n):=by simp[sl,h]
def X1(l:aW)(i:aa)(n:J):(sl l).setIfInBounds i n=sl (l.set i n):=by
 unfold sl;rw[kM,Kg]
def alE{w:ag}{B:aa}{e:dC}{g n cap:aa}{l:aW}(h:w.ownsRow B e 1 (ae (some (g,0)) n cap) n (l.map (Value.int .i64)))(aq:cap=n):aB w g e (sl l):=by
 subst aq;rcases h.2 with⟨aK,_⟩|⟨ju,rj,cur,aK,_,al,_,_,ao,aR⟩
 .cases aK
 .simp only[i_,vF,wJ]at aK;obtain⟨⟨rfl,_⟩,_,rfl⟩:=aK;rw[mH (by rw[Tj,ao];exact bB _)]at aR;unfold aB sl;rw[<-aR,ZV];exact al
def adh{w w1:ag}{t:dC}{n:aa}(cN:w1.ownsRow w t 1 (ae (some (w,0)) n n) n (madeCells (Value.int .i64 0).cells (n*1)).toList)(cu:w.grownBy w1 none):
  aB w1 w t (sl (List.replicate n 0))/\Kept w w1:=by
 refine⟨alE (B:=w.heap.size) (n:=n) ?_ rfl,⟨cu.os,cu.tape,cu.output,cu.size,λb af=>cu.block b af (by simp)⟩⟩;have e:=Ov (Value.int .i64 0) (n*1);rw[jD]at e;rw[jD,show (Value.int IntKind.i64 0).cells=#[Value.int .i64 0]from rfl,e]at cN;simpa using cN
def Px(S:List aa):aa->J->Prop
 |0,_=>True
 |k+1,z=>∃l s:aa,z=l/\S[l]?=some s/\Px S k ((s:J)-1)
def adQ{S:List aa}{q:aa}{a:J}(h:Pw S q a):Px S a.toNat ((q:J)-1):=by
 rcases h.2 with⟨rfl,_⟩|⟨rfl,ab,s,ad,_⟩|⟨rfl,ab,s1,s,ad,ao,_⟩|⟨rfl,ab,s2,s1,s,ad,ao,aR,_⟩
 .trivial
 .exact⟨q-1,s,by omega,ad,trivial⟩
 .exact⟨q-1,s1+1,by omega,ad,s1,s,by omega,ao,trivial⟩
 .exact⟨q-1,s2+1,by omega,ad,s2,s1+1,by omega,ao,s1,s,by omega,aR,trivial⟩
def adS{S:List aa}{k l s:aa}{acc:aW}(h:S[l]?=some s):ti S (k+1) (l:J) acc=ti S k ((s:J)-1) ((l:J)::acc):=by
 rw[ti,c7,h];rfl
def aq0(k:aa)(acc:aW)(z:J):(List.replicate (k+1) 0++acc).set k z=List.replicate k 0++z::acc:=by
 rw[List.replicate_succ',nY,A' _ _ (by simp)];simp
def aae(B:aa)(w:ag)(u:ak)(l:aW):Prop:=∃g,u=ae (some ⟨g,0,none⟩) l l/\B<=g/\aB w g 3 (sl l)
def ao3(v:ak)(xs:List cw)(w:ag)(cd:DC w v xs)(aH:xs.length<=9223372036854775807):bg 94 #[v] w λe w'=>∃u,e=bL (bj #[u,ah (c' xs).2.2])/\hP w' nr 1 u (c' xs).1/\Kept w w':=by
 have eb:=I (aeV v xs w cd aH);clear cd aH;go_enter func94,ntmps94
 go_wp2_with (go_at_call 131;refine eb.mono ?_;rintro e w1⟨u,rfl,hu,ai⟩)
 go_ret2
 exact⟨u,rfl,hu,ai⟩
def wQ(w:ag)(v:ak)(e:List cw)(ed:List aa)(E:dT):Prop:=
 ∃p9 cH dm aY dx a' dq bu fr b4 e6 b_,v=aF #[p9,cH,E.dt,ae dm E.ins aY,ae dx E.ds a',ae dq E.ms bu,ae fr E.mt b4,ae e6 E.tb b_]/\DC w p9 e/\hP w nr 1 cH ed/\
  je w (aF #[E.dt,ae dm E.ins aY,ae dx E.ds a',ae dq E.ms bu,ae fr E.mt b4,ae e6 E.tb b_]) E
def wQ.kept{w w':ag}{v:ak}{e:List cw}{ed:List aa}{E:dT}(h:wQ w v e ed E)(ai:Kept w w'):wQ w' v e ed E:=by
 obtain⟨p9,cH,dm,aY,dx,a',dq,bu,fr,b4,e6,b_,aK,ab,ad,ao⟩:=h;exact⟨p9,cH,dm,aY,dx,a',dq,bu,fr,b4,e6,b_,aK,ab.kept ai,ad.kept ai,ao.kept ai⟩
def Ss(S:List aa)(a q:aa)(w:ag)(x:Ending)(w':ag):Prop:=∃u,x=bL u/\aae w w' u (ti S a ((q:J)-1) [])/\Kept w w'
def abF(v:ak)(e:List cw)(E:dT)(q a:aa)(x:cw)(w:ag)(c6:wQ w v e (c' e).1 E)(aK:(c' e).2.2=0)(aj:e[q]?=some x)(bD:eP x.o=a):bg 132 #[v,q] w (Ss (c' e).1 a q w):=by
 obtain⟨ar,DX,hlen,iK,_⟩:=Oc aK;have nM:=aeQ aK;obtain⟨MC,fK⟩:=iK q _ aj;have pg:=(DK x.o).2;have dK:=adQ fK;obtain⟨p9,cH,dm,aY,dx,a',dq,bu,fr,b4,e6,b_,rfl,cd,bH,-⟩:=c6;obtain⟨A,cap,rfl,a7⟩:=cd.at_;obtain⟨uH,oz,rfl,CA⟩:=GW bH;have Cx:=(b2 aj).1;obtain⟨n,tc⟩:∃n,n=e.length:=⟨_,rfl⟩;obtain⟨c9,j0,rfl,fU,dE⟩:=a7 (by omega);obtain⟨bX,_⟩:=dE q _ aj;have pL:=I (λw=>(by have:=Iq x.o w;rwa [bD]at this:bg 152 #[x.o] w λe w'=>e=bL (ah (a:J))/\w=w'));rw[bD,c7]at dK;rw[<-tc]at DX hlen Cx⊢;have RB:(q:J)<n:=by omega
 have asx:(q:J)<=48:=by omega
 have ha3:a<=3:=by omega
 have arC:(a:J)<=3:=by omega
 have Dp:=I hlen;generalize hSS:(c' e).1=S at*;obtain⟨L,bE⟩:∃L,L=ti S a ((q:J)-1) []:=⟨_,rfl⟩;have dB:=I bE;have o':=I nM;have OQ:=I dK;obtain⟨i0,aD,fY,cG,eM⟩:=hy Tryz.td;unfold Ss;rw[<-bE];clear iK bD pg MC fK aj nM dK cd a7 dE aK hSS hlen bE tc ar bH;generalize x.o=op at*;go_enter func132,ntmps132
 go_upto_region 1 with fail
 generalize aL:w.alloc _=W at*;obtain⟨aV,bo⟩:=Kept.aQ aL;clear aL;have iI:=aV.aI fU bX;obtain⟨dX,cR⟩:=bo.p;have arK:=bG fU aV.size;go_wp2_with (first
  |(go_at_call 152;refine (pL _).mono ?_;rintro e w'⟨rfl,rfl⟩)
  |(at_make;refine rR _ rfl _ _ 46 rfl W 3 i0 () 1 underlying46 aD fY cG _ _ _ _ a rfl rfl rfl rfl (by rw[eM];omega) (by unfold maxLen;omega) (bB _) ?_;intro w2 cN cu))
 obtain⟨bc,jm⟩:=adh cN cu;clear cN cu dX cR;go_wp2_with fail
 go_loopw [6,7] (λy x wr=>∃(k:aa)(j z:J)(acc:aW),y=ah z/\x=ah j/\j=(k:J)-1/\acc.length+k=a/\Px S k z/\ti S k z acc=L/\Kept W wr/\aB wr W 3 (sl (List.replicate k 0++acc))) (λ_ x _=>(intOf x+1).toNat)
 case atStart=>exact⟨a,_,_,[],rfl,rfl,rfl,by simp,OQ,dB.symm,jm,by rw[hj];exact bc⟩
 case round=>
  obtain⟨k,j,z,acc,rfl,rfl,ay,yY,dK,a6,ax,bc⟩:=hrel;clear jm
  cases k with
  |zero=>
   obtain rfl:j= -1:=by omega
   have bM:Hid (aae w.heap.size wr (ae (some (W,0)) a a) L):=I ⟨W.heap.size,by rw[<-a6,ti,show acc.length=a by omega],aV.size,by rw[<-a6,ti];exact bc⟩;clear bc a6 yY ay dK;go_wp2_with fail
   go_ret;exact⟨_,rfl,bM,aV.trans ax⟩
  |succ k=>
   obtain⟨l,s,rfl,aO,ajS⟩:=dK;obtain rfl:j=(k:J):=by omega
   rw[adS aO]at a6;have nM:=o'.out l l s (bB _) aO;have Je:=(b2 aO).1;have Ro:(l:J)<S.length:=by omega
   rw[Dp]at Je;obtain⟨kL,qb,hSA,jX,nL⟩:=CA (by rw[Dp];omega);subst hSA;have c1':=(aV.trans ax).aI jX (nL l s aO);have Vf:aU wr (W,k)=some (ah 0):=by
    rw[bc.cell];exact Jw (by rw[lQ (by simp),uj,aP (by omega)])
   have f:=bc.frozen;have bh:=bo.kept ax;obtain⟨dX,cR⟩:=bh.p;have g_:=bc.ba k (ah (l:J));rw[X1,aq0]at g_;have yq:=ax.setCell (p:=⟨W.heap.size,k,none⟩) (bB _) (ah (l:J));have hwW:w.heap.size<W.heap.size:=bo.lt;have bU:kL≠W.heap.size:=by have:=aV.size;omega
   have Rs:w.heap.size≠W.heap.size:=by omega
   have W7:(k:J)<a:=by omega
   have ar8:(l:J)<=48:=by omega
   have asK:(s:J)<=48:=by omega
   have ar7:(k:J)<=48:=by omega
   have HAC:=I yY;have fa:=I a6;clear yY a6 bc ax ay aO nM Je nL;go_wp2_with fail
   go_roundw
   case rel=>exact⟨k,_,_,(l:J)::acc,rfl,rfl,rfl,by have:=HAC.out;rw[hi];omega,ajS,fa,yq,g_⟩
   case measure=>simp[intOf]
def z8(e:List cw)(E:dT)(q:aa):Prop:=
 ∀F:aa,q<F->∀(v:ak)(w:ag),wQ w v e (c' e).1 E->Mon w->bg 95 #[v,q] w (hA (hQ cz E e (c' e).1 F q) w)
def opsL{S:List aa}{q:aa}(hle:∀k s:aa,S[k]?=some s->s<=k):∀(k:aa)(z:J)(acc:aW),Px S k z->z<q->∃L:List aa,L.length=k/\ti S k z acc=L.map (λn:aa=>(n:J))++acc/\∀l∈L,l<q:=by
 intro k;induction k with
 |zero=>intro z acc _ _;exact⟨[],rfl,rfl,λl h=>by cases h⟩
 |succ k bO=>
  intro z acc h bP;obtain⟨l,s,rfl,aO,ad⟩:=h;obtain⟨L,ao,aR,bw⟩:=bO ((s:J)-1) ((l:J)::acc) ad (by have:=hle l s aO;omega);refine⟨L++[l],by simp[ao],?_,λy bZ=> ?_⟩
  .rw[adS aO,aR];simp
  .rcases k5.1 bZ with bZ|bZ
   .exact bw y bZ
   .rw[kb]at bZ;omega
def adT{e:List cw}{q:aa}{x:cw}{a:aa}(aK:(c' e).2.2=0)(aj:e[q]?=some x)(bD:eP x.o=a):∃L:List aa,L.length=a/\ti (c' e).1 a ((q:J)-1) []=L.map (λn:aa=>(n:J))/\∀l∈L,l<q:=by
 obtain⟨_,_,_,iK,_⟩:=Oc aK;obtain⟨_,fK⟩:=iK q _ aj;have dK:=adQ fK;rw[bD,c7]at dK;obtain⟨L,ab,ad,ao⟩:=opsL (q:=q) (λk s aO=>aeQ aK k k s (bB _) aO) a _ [] dK (by omega);exact⟨L,ab,by rw[ad,hj],ao⟩
def Vd(v:ak)(e:List cw)(E:dT)(q F:aa)(w:ag)(hC:z8 e E q)(hF:q<F)(c6:wQ w v e (c' e).1 E)(bN:Mon w):
  bg 153 #[v,q] w (hA (pV (hQ cz E e (c' e).1 F q)) w):=by
 have ct:=I (λw1(h:Kept w w1)=>hC F hF v w1 (c6.kept h) (bN.kept h));obtain⟨p9,cH,dm,aY,dx,a',dq,bu,fr,b4,e6,b_,rfl,cd,bH,-⟩:=c6;obtain⟨A,cap,rfl,-⟩:=cd.at_;obtain⟨uH,oz,rfl,-⟩:=GW bH;generalize hQ cz E e (c' e).1 F q=r at*;obtain⟨⟨cS,eo,di⟩,rc⟩:=r;unfold hA at ct⊢;dsimp only at ct;have dU:=I (λw=>EC cS eo di w);have h4:pV (⟨cS,eo,di⟩,rc)=if rc≠0 then (v0,rc)else if cS≠1\/iv ⟨cS,eo,di⟩=false then (v0,8)else (⟨cS,eo,di⟩,0):=rfl;obtain⟨R,aJ⟩:∃R,R=pV (⟨cS,eo,di⟩,rc):=⟨_,rfl⟩;rw[<-aJ]at h4⊢;clear aJ cd bH hC bN;obtain⟨⟨N7,auS,e1⟩,sc⟩:=R;by_cases aq:rc=0
 case neg=>
  have jv:(rc !=0)=true:=by simpa using aq
  rw[aP aq]at h4;obtain⟨rfl,rfl,rfl,rfl⟩:=j2 h4;clear h4 aq;go_enter func153,ntmps153
  go_wp2_with (go_at_call 95;refine (ct _ ((aG _).aZ.aZ)).mono ?_;rintro y w1⟨rfl,au⟩;obtain⟨dE,jk⟩:=Kept.cells au;have cG:=au.size;(try simp at cG);have:w.heap.size<w1.heap.size:=(by omega);have:w.heap.size+1<w1.heap.size:=(by omega))
  exact bI (v:=bj #[aF #[(),(),()],_]) (by simp[results,results153,go_sem, *]) rfl ⟨rfl,(aG _).aZ.aZ.trans au|>.sc (by omega)|>.sc (by omega)|>.sc (by omega)|>.aZ⟩
 subst aq;rw[aw (by decide)]at h4;by_cases ab:cS=1
 case neg=>
  have V9:(cS !=1)=true:=by simpa using ab
  rw[aP (.inl ab)]at h4;obtain⟨rfl,rfl,rfl,rfl⟩:=j2 h4;clear h4 ab;go_enter func153,ntmps153
  go_wp2_with (go_at_call 95;refine (ct _ ((aG _).aZ.aZ)).mono ?_;rintro y w1⟨rfl,au⟩;obtain⟨dE,jk⟩:=Kept.cells au;have cG:=au.size;(try simp at cG);have:w.heap.size<w1.heap.size:=(by omega);have:w.heap.size+1<w1.heap.size:=(by omega))
  exact bI (v:=bj #[aF #[(),(),()],ah 8]) (by simp[results,results153,go_sem, *]) rfl ⟨rfl,(aG _).aZ.aZ.trans au|>.sc (by omega)|>.sc (by omega)|>.sc (by omega)|>.aZ⟩
 subst ab
 cases hp:iv ⟨1,eo,di⟩
 case false=>
  rw[aP (.inr hp)]at h4;obtain⟨rfl,rfl,rfl,rfl⟩:=j2 h4;rw[hp]at dU;clear h4 hp;go_enter func153,ntmps153
  go_wp2_with (first|(go_at_call 95;refine (ct _ ((aG _).aZ.aZ)).mono ?_;rintro y w1⟨rfl,au⟩;obtain⟨dE,jk⟩:=Kept.cells au;have cG:=au.size;(try simp at cG);have:w.heap.size<w1.heap.size:=(by omega);have:w.heap.size+1<w1.heap.size:=(by omega))|(go_at_call 159;refine (dU _).mono ?_;rintro y w2⟨rfl,bt⟩;obtain⟨jj,Cg⟩:=Kept.cells bt;have eM:=bt.size;(try simp at eM);have:w.heap.size<w2.heap.size:=(by omega);have:w.heap.size+1<w2.heap.size:=(by omega)))
  exact bI (v:=bj #[aF #[(),(),()],ah 8]) (by simp[results,results153,go_sem, *]) rfl ⟨rfl,(aG _).aZ.aZ.trans au|>.aZ.trans bt|>.sc (by omega)|>.sc (by omega)|>.sc (by omega)⟩
 case true=>
  rw[aw (by rw[hp];simp)]at h4;obtain⟨rfl,rfl,rfl,rfl⟩:=j2 h4;rw[hp]at dU;clear h4 hp;go_enter func153,ntmps153
  go_wp2_with (first|(go_at_call 95;refine (ct _ ((aG _).aZ.aZ)).mono ?_;rintro y w1⟨rfl,au⟩;obtain⟨dE,jk⟩:=Kept.cells au;have cG:=au.size;(try simp at cG);have:w.heap.size<w1.heap.size:=(by omega);have:w.heap.size+1<w1.heap.size:=(by omega))|(go_at_call 159;refine (dU _).mono ?_;rintro y w2⟨rfl,bt⟩;obtain⟨jj,Cg⟩:=Kept.cells bt;have eM:=bt.size;(try simp at eM);have:w.heap.size<w2.heap.size:=(by omega);have:w.heap.size+1<w2.heap.size:=(by omega)))
  exact bI (v:=bj #[aF #[ah 1,auS,e1],()]) (by simp[results,results153,go_sem, *]) rfl ⟨rfl,(aG _).aZ.aZ.trans au|>.aZ.trans bt|>.sc (by omega)|>.sc (by omega)|>.sc (by omega)⟩
end Go.Proofs.YtilhklpfkgbikaaGreatDoor
