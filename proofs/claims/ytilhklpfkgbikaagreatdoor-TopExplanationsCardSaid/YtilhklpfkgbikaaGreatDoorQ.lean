import Derived.Test.YtilhklpfkgbikaaGreatDoorP
set_option linter.all false
namespace Go.Proofs.YtilhklpfkgbikaaGreatDoor
open Go.RowKit Go.Proofs.Tryz
set_option maxRecDepth 100000
set_option maxHeartbeats 8000000
def aad(e:Ending):Prop:=∃b,e=bL (bR b)
def ajZ(B R g cap n:aa)(l:aW)(w:ag)(h:j6 w B R (ae (some (g,0)) l cap) l)(aH:n<l.length)(av:l.length<=1000000):
  bg 124 #[.iface 193 (.pointer (some (R,0))),(),n] w λe w'=>aad e/\j6 w' B R (ae (some (g,0)) l cap) (uM l l 0 n)/\Two w w' (some g) R:=by
 obtain⟨T,bT⟩:∃T,uM l l 0 n=T:=⟨_,rfl⟩;rw[bT];have c8:=I bT;have wS:=I h;clear bT h;have lH:(n:J)<=1000000:=by omega
 go_enter func124,ntmps124
 go_wp2
 go_loopg [7] l (λk y wr=>∃(i:aa)(bq:aW),y=ah i/\i<=n/\n<i+k/\bq.length=l.length/\j6 wr B R (ae (some (g,0)) l cap) bq/\Two w wr (some g) R/\uM k bq i n=T)
 case atStart=>exact⟨0,l,rfl,d' _,by omega,rfl,wS,Two.refl _ _ _,c8⟩
 case round=>
  obtain⟨i,bq,rfl,aD,ai,uT,b6,nH,a6⟩:=hrel;obtain⟨F,rfl⟩:∃F,gk=F+1:=⟨gk-1,by omega⟩;have cK:=b6.box.cell 0;have cR:=b6.box.lt;simp only[hL,iP]at cK;rw[uM]at a6;have MY:(i:J)<=1000000:=by omega
  obtain⟨cur,bc,-,dE,-,-,-,-,sd⟩:=b6.row;have al:=bc.lt;have dB:=I (λw1(a b:aa)(mj q9:J)(r:Bool)(I1:mj=a)(yU:q9=b)(bD:a<l.length)(af:b<l.length)(aC:decide (dJ bq a<dJ bq b)=r)(ai:Kept wr w1)=>(aC▸acp g cap l a b mj q9 I1 yU (dJ bq a) (dJ bq b) w1 bD af (bG al ai.size) (ai.aI al ((bc.cell a).trans (sd a (by omega)))) (ai.aI al ((bc.cell b).trans (sd b (by omega)))):
   bg 245 #[ae (some (g,0)) l cap,mj,q9] w1 λe w'=>e=bL (bR r)/\Kept w1 w'))
  have Dv:=I (λw1(a b:aa)(mj q9:J)(I1:mj=a)(yU:q9=b)(bD:a<l.length)(af:b<l.length)(ai:Kept wr w1)=>XG g cap l a b mj q9 I1 yU cur (dJ bq a) (dJ bq b) w1 bD af (bc.kept ai) (sd a (by omega)) (sd b (by omega)));have hm:=(JE 438 R _ wr b6.cell:(method 439 _ _ _).run _ _=_);have dP:=I b6;have dv:=I bc;have n6:=I nH;have aX:=I a6;clear b6 a6 nH bc sd;by_cases a7:n<=2*i+1
  .have B3:(n:J)<=2*i+1:=by omega
   have gR:bq=T:=by
    have:=aX.out;rwa [aP (.inl a7)]at this
   clear hm cK;go_wp2_with fail
   go_ret;exact⟨⟨_,rfl⟩,gR▸dP,n6⟩
  .have B3:¬(n:J)<=2*i+1:=by omega
   have QG:¬((2*(i:J)+1)<0):=by omega
   rcases (show (2*i+2<n/\dJ bq (2*i+2)<dJ bq (2*i+1))\/(2*i+2<n/\¬dJ bq (2*i+2)<dJ bq (2*i+1))\/¬2*i+2<n by omega)with⟨g1,g2⟩|⟨g1,g2⟩|g1
   .have im:(2*(i:J)+1+1)<n:=by omega
    have om:xj bq i n=(2*i+2):=by unfold xj;rw[aP ⟨g1,g2⟩]
    by_cases aN:dJ bq (2*i+2)<dJ bq i
    .have cU:=I (jR aN);clear aN;go_wp2_with (first|(go_at_call 245;refine (dB _ (2*i+2) (2*i+1) _ _ true (by omega) (by omega) (by omega) (by omega) (jR g2) (aG _)).mono ?_;rintro e w1⟨rfl,au⟩;have lG:=(JE 438 R _ w1 (dP.kept au).cell:(method 439 _ _ _).run _ _=_);have ca:=I au;clear au)|(go_at_call 245;refine (dB _ (2*i+2) i _ _ true (by omega) (by omega) (by omega) (by omega) cU ca).mono ?_;rintro e w2⟨rfl,bt⟩;have y6:=(Er 438 R _ w2 (dP.kept (Kept.trans ca bt)).cell:(method 439 _ _ _).run _ _=_);have c3:=I bt;clear bt)|(go_at_call 248;refine (Dv _ i (2*i+2) _ _ (by omega) (by omega) (by omega) (by omega) (ca.trans c3)).mono ?_;rintro e ch⟨rfl,g1,g2⟩;have eQ:=I (bb g1 g2);clear g1 g2))
     obtain⟨g1,g2⟩:=eQ.out;have F8:=(dP.kept (ca.trans c3)).swap (dv.kept (ca.trans c3)) (by omega) (by omega) g1 g2;have D4:=(n6.trans (Two.ky (a:=some g) (r:=R) (ca.trans c3)) (.inl rfl)).trans (Two.AQ (r:=R) g2) (.inl rfl);have gR:uM F (pB bq i (2*i+2)) (2*i+2) n=T:=by
      have:=aX.out;have aN:=um cU.out;rwa [aw (by rw[om];omega),om]at this
     go_roundg F
     case measure=>omega
     case rel=>exact⟨(2*i+2),pB bq i (2*i+2),by go_num,by omega,by omega,by rw[rL];exact uT,F8,D4,gR⟩
    .have cU:=I (jC aN);clear aN;go_wp2_with (first|(go_at_call 245;refine (dB _ (2*i+2) (2*i+1) _ _ true (by omega) (by omega) (by omega) (by omega) (jR g2) (aG _)).mono ?_;rintro e w1⟨rfl,au⟩;have lG:=(JE 438 R _ w1 (dP.kept au).cell:(method 439 _ _ _).run _ _=_);have ca:=I au;clear au)|(go_at_call 245;refine (dB _ (2*i+2) i _ _ false (by omega) (by omega) (by omega) (by omega) cU ca).mono ?_;rintro e w2⟨rfl,bt⟩;have y6:=(Er 438 R _ w2 (dP.kept (Kept.trans ca bt)).cell:(method 439 _ _ _).run _ _=_);have c3:=I bt;clear bt))
     have gR:bq=T:=by
      have:=aX.out;have aN:=ZY cU.out;rwa [aP (by rw[om];omega)]at this
     go_ret;exact⟨⟨_,rfl⟩,gR▸dP.kept (ca.trans c3),n6.trans (Two.ky (a:=some g) (r:=R) (ca.trans c3)) (.inl rfl)⟩
   .have im:(2*(i:J)+1+1)<n:=by omega
    have om:xj bq i n=(2*i+1):=by unfold xj;rw[aw (λh=>g2 h.2)]
    by_cases aN:dJ bq (2*i+1)<dJ bq i
    .have cU:=I (jR aN);clear aN;go_wp2_with (first|(go_at_call 245;refine (dB _ (2*i+2) (2*i+1) _ _ false (by omega) (by omega) (by omega) (by omega) (jC g2) (aG _)).mono ?_;rintro e w1⟨rfl,au⟩;have lG:=(JE 438 R _ w1 (dP.kept au).cell:(method 439 _ _ _).run _ _=_);have ca:=I au;clear au)|(go_at_call 245;refine (dB _ (2*i+1) i _ _ true (by omega) (by omega) (by omega) (by omega) cU ca).mono ?_;rintro e w2⟨rfl,bt⟩;have y6:=(Er 438 R _ w2 (dP.kept (Kept.trans ca bt)).cell:(method 439 _ _ _).run _ _=_);have c3:=I bt;clear bt)|(go_at_call 248;refine (Dv _ i (2*i+1) _ _ (by omega) (by omega) (by omega) (by omega) (ca.trans c3)).mono ?_;rintro e ch⟨rfl,g1,g2⟩;have eQ:=I (bb g1 g2);clear g1 g2))
     obtain⟨g1,g2⟩:=eQ.out;have F8:=(dP.kept (ca.trans c3)).swap (dv.kept (ca.trans c3)) (by omega) (by omega) g1 g2;have D4:=(n6.trans (Two.ky (a:=some g) (r:=R) (ca.trans c3)) (.inl rfl)).trans (Two.AQ (r:=R) g2) (.inl rfl);have gR:uM F (pB bq i (2*i+1)) (2*i+1) n=T:=by
      have:=aX.out;have aN:=um cU.out;rwa [aw (by rw[om];omega),om]at this
     go_roundg F
     case measure=>omega
     case rel=>exact⟨(2*i+1),pB bq i (2*i+1),by go_num,by omega,by omega,by rw[rL];exact uT,F8,D4,gR⟩
    .have cU:=I (jC aN);clear aN;go_wp2_with (first|(go_at_call 245;refine (dB _ (2*i+2) (2*i+1) _ _ false (by omega) (by omega) (by omega) (by omega) (jC g2) (aG _)).mono ?_;rintro e w1⟨rfl,au⟩;have lG:=(JE 438 R _ w1 (dP.kept au).cell:(method 439 _ _ _).run _ _=_);have ca:=I au;clear au)|(go_at_call 245;refine (dB _ (2*i+1) i _ _ false (by omega) (by omega) (by omega) (by omega) cU ca).mono ?_;rintro e w2⟨rfl,bt⟩;have y6:=(Er 438 R _ w2 (dP.kept (Kept.trans ca bt)).cell:(method 439 _ _ _).run _ _=_);have c3:=I bt;clear bt))
     have gR:bq=T:=by
      have:=aX.out;have aN:=ZY cU.out;rwa [aP (by rw[om];omega)]at this
     go_ret;exact⟨⟨_,rfl⟩,gR▸dP.kept (ca.trans c3),n6.trans (Two.ky (a:=some g) (r:=R) (ca.trans c3)) (.inl rfl)⟩
   .have im:¬(2*(i:J)+1+1)<n:=by omega
    have om:xj bq i n=(2*i+1):=by unfold xj;rw[aw (λh=>g1 h.1)]
    by_cases aN:dJ bq (2*i+1)<dJ bq i
    .have cU:=I (jR aN);clear aN;go_wp2_with (first|(go_at_call 245;refine (dB _ (2*i+1) i _ _ true (by omega) (by omega) (by omega) (by omega) cU (aG _)).mono ?_;rintro e w2⟨rfl,bt⟩;have y6:=(Er 438 R _ w2 (dP.kept (Kept.trans (aG _) bt)).cell:(method 439 _ _ _).run _ _=_);have c3:=I bt;clear bt)|(go_at_call 248;refine (Dv _ i (2*i+1) _ _ (by omega) (by omega) (by omega) (by omega) c3).mono ?_;rintro e ch⟨rfl,g1,g2⟩;have eQ:=I (bb g1 g2);clear g1 g2))
     obtain⟨g1,g2⟩:=eQ.out;have F8:=(dP.kept c3).swap (dv.kept c3) (by omega) (by omega) g1 g2;have D4:=(n6.trans (Two.ky (a:=some g) (r:=R) c3) (.inl rfl)).trans (Two.AQ (r:=R) g2) (.inl rfl);have gR:uM F (pB bq i (2*i+1)) (2*i+1) n=T:=by
      have:=aX.out;have aN:=um cU.out;rwa [aw (by rw[om];omega),om]at this
     go_roundg F
     case measure=>omega
     case rel=>exact⟨(2*i+1),pB bq i (2*i+1),by go_num,by omega,by omega,by rw[rL];exact uT,F8,D4,gR⟩
    .have cU:=I (jC aN);clear aN;go_wp2_with (first|(go_at_call 245;refine (dB _ (2*i+1) i _ _ false (by omega) (by omega) (by omega) (by omega) cU (aG _)).mono ?_;rintro e w2⟨rfl,bt⟩;have y6:=(Er 438 R _ w2 (dP.kept (Kept.trans (aG _) bt)).cell:(method 439 _ _ _).run _ _=_);have c3:=I bt;clear bt))
     have gR:bq=T:=by
      have:=aX.out;have aN:=ZY cU.out;rwa [aP (by rw[om];omega)]at this
     go_ret;exact⟨⟨_,rfl⟩,gR▸dP.kept c3,n6.trans (Two.ky (a:=some g) (r:=R) c3) (.inl rfl)⟩
def j6.some_{w:ag}{B R:aa}{v:ak}{l:aW}(h:j6 w B R v l)(hp:0<l.length):∃g cap,v=ae (some ⟨g,0,none⟩) l cap:=by
 rcases h.own.2 with⟨_,ar⟩|⟨g,cap,_,ar,_⟩
 .omega
 .exact⟨g,cap,ar⟩
def ad7(B R:aa)(v:ak)(l:aW)(x:J)(w:ag)(e:Ending)(w':ag):Prop:=e=bL (bj #[])/\∃v',j6 w' B R v' (zt l x)/\Two w w' v.ownBlock R/\(v'.ownBlock=v.ownBlock\/∃g,v'.ownBlock=some g/\w.heap.size<=g)
def acg(B R:aa)(v:ak)(l:aW)(x:J)(w:ag)(h:j6 w B R v l)(av:l.length<=900000)(bc:B<=w.heap.size):
  bg 89 #[.iface 193 (.pointer (some (R,0))),.iface 3 x] w (ad7 B R v l x w):=by
 have dU:=I (akG B R v l x w h (by omega) bc);have eb:=I (show∀(w1:ag)(v1:ak),j6 w1 B R v1 (l++[x])->Two w w1 v.ownBlock R->(v1.ownBlock=v.ownBlock\/∃g,v1.ownBlock=some g/\w.heap.size<=g)->∃g cap,v1=ae (some ⟨g,0,none⟩) (l.length+1) cap/\aU w1 (R,0)=some v1/\
   bg 123 #[.iface 193 (.pointer (some (R,0))),l.length] w1 λe w'=>e=bL (bj #[])/\ad7 B R v l x w (bL (bj #[])) w' from λw1 v1 ab ad ao=>by
  obtain⟨g,cap,rfl⟩:=ab.some_ (by simp);refine⟨g,cap,by rw[fk];rfl,ab.cell,(hup B R g cap (l++[x]) l (l.length+1) w1 ab (by simp) (by omega) (by rw[fk,sy];omega)).mono ?_⟩;rintro e w'⟨rfl,aR,bw⟩;refine⟨rfl,rfl,_,?_,ad.trans bw ao,ao⟩;unfold zt;have a_:(xT (l.length+1) (l++[x]) l).length=(l++[x]).length:=aqr _ _ _;exact aR)
 have Jf:=(amx 438 R w:(method 439 _ _ _).run _ _=_);have Je:(l:J)<=900000:=by omega
 clear h av bc;generalize l.length=n at*;go_enter func89,ntmps89
 go_upto_region 1 with (go_at_call 247;refine dU.mono ?_;rintro e w1⟨rfl,v1,ab,ad,ao⟩;have b1:=I (eb w1 v1 ab ad ao);clear ab ad ao)
 obtain⟨g,cap,rfl,aq,acQ⟩:=b1.out;have po:=(adg 438 R _ w1 aq:(method 439 _ _ _).run _ _=_);have pa:=I acQ;clear acQ b1 Jf;go_wp2_with (first|(go_at_call 90;refine (hlen _ _ _ _).mono ?_;rintro e w2⟨rfl,rfl⟩)|(go_at_call 123;refine pa.mono ?_;rintro e w2⟨rfl,bw⟩;have pK:=I bw;clear bw))
 go_end0
 exact pK
def aj0(B R g cap:aa)(l:aW)(w:ag)(h:j6 w B R (ae (some (g,0)) l cap) l)(hp:0<l.length)(av:l.length<=900000):
  bg 91 #[.iface 193 (.pointer (some (R,0)))] w λe w'=>e=bL (.iface 3 (ah (uc l)))/\j6 w' B R (ae (some (g,0)) (l.length-1) cap) (vk l)/\Two w w' (some g) R:=by
 obtain⟨cur,bc,-,dE,-,-,-,-,sd⟩:=h.row;obtain⟨m,hm⟩:∃m,m=l.length-1:=⟨_,rfl⟩;have gp:m<l.length:=by omega
 have aQ:((l:J)-1)=(m:J):=by omega
 have Dv:=I (XG g cap l 0 m 0 m rfl rfl cur (dJ l 0) (dJ l m) w hp gp bc (sd 0 hp) (sd m gp));have agq:=I (λw1=>h.swap (w':=w1) bc hp gp);have cU:=I (λw1(ab:j6 w1 B R (ae (some (g,0)) l cap) (pB l 0 m))=>(by
  have ad:=ajZ B R g cap m (pB l 0 m) w1 (by rw[rL];exact ab) (by rw[rL];exact gp) (by rw[rL];omega);rw[rL]at ad;have e:uM l (pB l 0 m) 0 m=xO l:=by unfold xO;rw[<-hm]
  rwa [e]at ad:bg 124 #[.iface 193 (.pointer (some (R,0))),(),ah m] w1 λe w'=>aad e/\j6 w' B R (ae (some (g,0)) l cap) (xO l)/\Two w1 w' (some g) R))
 have dU:=I (λw1(ab:j6 w1 B R (ae (some (g,0)) l cap) (xO l))=>(by
  have ad:=akE B R g cap (xO l) w1 (by rw[JN];exact ab) (by rw[JN];exact hp) (by rw[JN];omega);rw[JN]at ad;exact ad:bg 246 #[.pointer (some (R,0))] w1 λe w'=>e=bL (.iface 3 (ah (uc l)))/\j6 w' B R (ae (some (g,0)) (l.length-1) cap) (vk l)/\Two w1 w' (some g) R))
 have Jf:=(adg 438 R _ w h.cell:(method 439 _ _ _).run _ _=_);have po:=(Er 438 R _ w h.cell:(method 439 _ _ _).run _ _=_);have Je:(l:J)<=900000:=by omega
 clear h av sd bc hm;generalize uc l=fZ at*;generalize vk l=d_ at*;generalize xO l=pl at*;generalize pB l 0 m=avJ at*;generalize l.length=n at*;go_enter func91,ntmps91
 go_upto_region 3 with (first|(go_at_call 90;refine (hlen _ _ _ _).mono ?_;rintro e w2⟨rfl,rfl⟩)|(go_at_call 248;refine Dv.mono ?_;rintro e w1⟨rfl,ab,ad⟩;have b1:=I (bb (agq.out w1 ab ad) ad);clear ab ad))
 have OW:=I (cU w1 b1.1);go_upto_region 4 with (go_at_call 124;refine OW.mono ?_;rintro e w2⟨⟨b,rfl⟩,ao,aR⟩;have Bp:=I (bb ao aR);clear ao aR)
 have lG:=(amw 438 R w2:(method 439 _ _ _).run _ _=_);have HP1:=I (dU w2 Bp.1);go_wp2_with (go_at_call 246;refine HP1.mono ?_;rintro e ch⟨rfl,bw,eL⟩;have uE:=I (bb bw eL);clear bw eL)
 go_ret;exact⟨rfl,uE.1,((Two.AQ (r:=R) b1.2).trans Bp.2 (.inl rfl)).trans uE.2 (.inl rfl)⟩
end Go.Proofs.YtilhklpfkgbikaaGreatDoor
