import Derived.Test.YtilhklpfkgbikaaGreatDoorF
set_option linter.all false
namespace Go.Proofs.YtilhklpfkgbikaaGreatDoor
open Go.RowKit Go.Proofs.Tryz
set_option maxRecDepth 100000
set_option maxHeartbeats 8000000
def aob(op:J)(aA:op=10)(b off cap:aa)(x y z:dh)(w:ag)(hC:uI w b off 1 x y z):bg 196 #[op,ae (some (b,off)) 1 cap] w (k1 (kK op x y z) w):=by
 unfold k1;have aJ:kK op x y z=(x,nt x.k):=by rcases aA with rfl<;>rfl
 rw[aJ];clear aJ;obtain⟨af,aY,a',bu⟩:=hC;obtain⟨mG,mF⟩:=aY (by decide);clear aY a' bu;obtain⟨ep,fj⟩:=x;dsimp only at*;have b3:=I (λk w1=>L3 k w1);obtain rfl:=aA;go_enter func196,ntmps196
 go_upto_region 4 with fail
 generalize aL:(w.alloc _).alloc _=W at*;obtain⟨bp,bh,bm⟩:=Kept.a_ aL;clear aL;have hE:=bG af bp.size;have nV:=bp.aI af mG;have nU:=bp.aI af mF;have bU:b≠w.heap.size:=by omega
 have bM:=I (λ(k e:J)=>jc k e bh bp (bB _));obtain⟨aY,bq,f1⟩:=bh.q;obtain⟨a',b5⟩:=bm.p;replace nV:=aS.cell hE nV;replace nU:=aS.cell hE nU;replace aY:=aS.cell bm.lt (bm.cell 0);replace a':=aS.cell bm.lt (bm.cell 1);refine wH 8 (by kernel_rfl) (by kernel_rfl) ?_;simp only[sz,q0,vE,rS]
 repeat (go_big_quiet_step ((go_at_call 213;with_reducible exact aS.pure (b3.out _ _))))
 refine f' ?_;rintro w2⟨⟨cj,eX⟩,aT⟩;obtain rfl:w2=cj:=aT;clear nV nU aY a' f1;have dO:=bh.kept eX;obtain⟨d1,dl,bx⟩:=dO.q;have ca:=bp.trans eX;go_wp2_with fail
 obtain⟨de,aS⟩:=jc ep fj dO ca (by omega);have da:=de.cell;exact bI (v:=bj #[aF #[ep,fj],bR (nt ep)]) (by simp[results,results196,go_sem,da]) rfl ⟨rfl,aS⟩
def aoj(op:J)(aA:op=25)(b off cap:aa)(x y z:dh)(w:ag)(hC:uI w b off 1 x y z):bg 196 #[op,ae (some (b,off)) 1 cap] w (k1 (kK op x y z) w):=by
 unfold k1;have aJ:kK op x y z=(⟨1,0⟩,x.k==1):=by rcases aA with rfl<;>rfl
 rw[aJ];clear aJ;obtain⟨af,aY,a',bu⟩:=hC;obtain⟨mG,mF⟩:=aY (by decide);clear aY a' bu;obtain⟨ep,fj⟩:=x;dsimp only at*;obtain rfl:=aA;go_enter func196,ntmps196
 go_upto_region 6 with fail
 generalize aL:(w.alloc _).alloc _=W at*;obtain⟨bp,bh,bm⟩:=Kept.a_ aL;clear aL;have hE:=bG af bp.size;have nV:=bp.aI af mG;have nU:=bp.aI af mF;have bU:b≠w.heap.size:=by omega
 have bM:=I (λ(k e:J)=>jc k e bh bp (bB _));obtain⟨aY,bq,f1⟩:=bh.q;obtain⟨a',b5⟩:=bm.p;go_region
 all_goals
  go_wp2_with fail
  obtain⟨de,aS⟩:=bM.out 1 0;have da:=de.drew.cell;exact bI (v:=bj #[aF #[ah 1,()],bR (ep==1)]) (by simp[results,results196,go_sem,da]) rfl ⟨rfl,aS.drew⟩
def aoc(op:J)(aA:op=11\/op=12)(b off cap:aa)(x y z:dh)(w:ag)(hC:uI w b off 2 x y z):bg 196 #[op,ae (some (b,off)) 2 cap] w (k1 (kK op x y z) w):=by
 unfold k1;have aJ:kK op x y z=(x,ug x y&&nt x.k):=by rcases aA with rfl|rfl<;>rfl
 rw[aJ];clear aJ;obtain⟨af,aY,a',bu⟩:=hC;obtain⟨mG,mF⟩:=aY (by decide);obtain⟨pD,pC⟩:=a' (by decide);clear aY a' bu;obtain⟨ep,fj⟩:=x;obtain⟨f_,h5⟩:=y;dsimp only at*;have b3:=I (λk w1=>L3 k w1);unfold ug;dsimp only;rcases aA with rfl|rfl
 all_goals
  go_enter func196,ntmps196
  go_upto_region 9 with fail
  generalize aL:(w.alloc _).alloc _=W at*;obtain⟨bp,bh,bm⟩:=Kept.a_ aL;clear aL;have hE:=bG af bp.size;have nV:=bp.aI af mG;have nU:=bp.aI af mF;have rQ:=bp.aI af pD;have rP:=bp.aI af pC;have bU:b≠w.heap.size:=by omega
  have bM:=I (λ(k e:J)=>jc k e bh bp (bB _));obtain⟨aY,bq,f1⟩:=bh.q;obtain⟨a',b5⟩:=bm.p;by_cases ab:f_=ep
  case neg=>
   have aH:(ep==f_)=false:=by simpa using (vB ab)
   go_region
   all_goals
    go_wp2_with fail
    obtain⟨de,aS⟩:=bM.out ep fj;have da:=de.drew.cell;exact bI (v:=bj #[aF #[ep,fj],bR false]) (by simp[results,results196,go_sem,da]) rfl ⟨(by simp[aH]),aS.drew⟩
  subst ab;by_cases ad:h5=fj
  case neg=>
   have aH:(fj==h5)=false:=by simpa using (vB ad)
   go_region
   all_goals
    go_wp2_with fail
    obtain⟨de,aS⟩:=bM.out f_ fj;have da:=de.drew.cell;exact bI (v:=bj #[aF #[f_,fj],bR false]) (by simp[results,results196,go_sem,da]) rfl ⟨(by simp[aH]),aS.drew⟩
  subst ad;have eF:=I (show∀X:ag,Kept w X->Kept w X/\aU X (b,off)=some (ah f_)/\aU X (b,off+1)=some (ah h5)/\aU X (b,off+2)=some (ah f_)/\aU X (b,off+2+1)=some (ah h5)from λX h=>⟨h,h.aI af mG,h.aI af mF,h.aI af pD,h.aI af pC⟩);go_region_held3 (λX=>Kept w X/\aU X (b,off)=some (ah f_)/\aU X (b,off+1)=some (ah h5)/\aU X (b,off+2)=some (ah f_)/\aU X (b,off+2+1)=some (ah h5))
   ((refine eF _ ?_;(with_reducible first|exact bp.drew|exact bp.ie.ie.drew)))
   ((go_at_call 213;refine (b3 _ _).mono ?_;rintro e w1⟨rfl,rfl⟩))
  all_goals
   go_wp2_with fail
   obtain⟨de,aS⟩:=bM.out f_ h5;have da:=de.drew.cell;exact bI (v:=bj #[aF #[f_,h5],bR (nt f_)]) (by simp[results,results196,go_sem,da]) rfl ⟨(by simp),aS.drew⟩
def aod(op:J)(aA:op=13\/op=14\/op=15)(b off cap:aa)(x y z:dh)(w:ag)(hC:uI w b off 2 x y z):bg 196 #[op,ae (some (b,off)) 2 cap] w (k1 (kK op x y z) w):=by
 unfold k1;have aJ:kK op x y z=JO op x.k y.k:=by rcases aA with rfl|rfl|rfl<;>rfl
 rw[aJ];clear aJ;obtain⟨af,aY,a',bu⟩:=hC;obtain⟨mG,mF⟩:=aY (by decide);obtain⟨pD,pC⟩:=a' (by decide);clear aY a' bu;obtain⟨ep,fj⟩:=x;obtain⟨f_,h5⟩:=y;dsimp only at*;have dU:=I (λw1=>anI op ep f_ w1);unfold k1 at dU;generalize JO op ep f_=q at*;obtain⟨⟨rI,rH⟩,tl⟩:=q;dsimp only at*;rcases aA with rfl|rfl|rfl
 all_goals
  go_enter func196,ntmps196
  go_upto_region 13 with fail
  generalize aL:(w.alloc _).alloc _=W at*;obtain⟨bp,bh,bm⟩:=Kept.a_ aL;clear aL;have hE:=bG af bp.size;have nV:=bp.aI af mG;have nU:=bp.aI af mF;have rQ:=bp.aI af pD;have rP:=bp.aI af pC;have bU:b≠w.heap.size:=by omega
  have bM:=I (λ(k e:J)=>jc k e bh bp (bB _));obtain⟨aY,bq,f1⟩:=bh.q;obtain⟨a',b5⟩:=bm.p;replace nV:=aS.cell hE nV;replace nU:=aS.cell hE nU;replace rQ:=aS.cell hE rQ;replace rP:=aS.cell hE rP;replace aY:=aS.cell bm.lt (bm.cell 0);replace a':=aS.cell bm.lt (bm.cell 1);refine wH 12 (by kernel_rfl) (by kernel_rfl) ?_;simp only[sz,q0,vE,rS]
  repeat (go_big_quiet_step ((go_at_call 214;with_reducible exact aS.call (dU.out _))))
  refine f' ?_;rintro w2⟨⟨cj,eX⟩,aT⟩;obtain rfl:w2=cj:=aT;clear nV nU rQ rP aY a' f1;have dO:=bh.kept eX;obtain⟨d1,dl,bx⟩:=dO.q;have ca:=bp.trans eX;go_wp2_with fail
  obtain⟨de,aS⟩:=jc rI rH dO ca (by omega);have da:=de.cell;exact bI (v:=bj #[aF #[rI,rH],bR tl]) (by simp[results,results196,go_sem,da]) rfl ⟨rfl,aS⟩
def aoe(op:J)(aA:op=16)(b off cap:aa)(x y z:dh)(w:ag)(hC:uI w b off 2 x y z):bg 196 #[op,ae (some (b,off)) 2 cap] w (k1 (kK op x y z) w):=by
 unfold k1;have aJ:kK op x y z=(x,x.k==3&&y.k==3):=by rcases aA with rfl<;>rfl
 rw[aJ];clear aJ;obtain⟨af,aY,a',bu⟩:=hC;obtain⟨mG,mF⟩:=aY (by decide);obtain⟨pD,pC⟩:=a' (by decide);clear aY a' bu;obtain⟨ep,fj⟩:=x;obtain⟨f_,h5⟩:=y;dsimp only at*;obtain rfl:=aA;go_enter func196,ntmps196
 go_upto_region 15 with fail
 generalize aL:(w.alloc _).alloc _=W at*;obtain⟨bp,bh,bm⟩:=Kept.a_ aL;clear aL;have hE:=bG af bp.size;have nV:=bp.aI af mG;have nU:=bp.aI af mF;have rQ:=bp.aI af pD;have rP:=bp.aI af pC;have bU:b≠w.heap.size:=by omega
 have bM:=I (λ(k e:J)=>jc k e bh bp (bB _));obtain⟨aY,bq,f1⟩:=bh.q;obtain⟨a',b5⟩:=bm.p;by_cases ab:ep=3
 case neg=>
  have aH:(ep==3)=false:=by simpa using ab
  go_region
  all_goals
   go_wp2_with fail
   obtain⟨de,aS⟩:=bM.out ep fj;have da:=de.drew.cell;exact bI (v:=bj #[aF #[ep,fj],bR false]) (by simp[results,results196,go_sem,da]) rfl ⟨(by simp[aH]),aS.drew⟩
 subst ab;go_region
 all_goals
  go_wp2_with fail
  obtain⟨de,aS⟩:=bM.out 3 fj;have da:=de.drew.cell;exact bI (v:=bj #[aF #[ah 3,fj],bR (f_==3)]) (by simp[results,results196,go_sem,da]) rfl ⟨(by simp),aS.drew⟩
def aog(op:J)(aA:op=19\/op=20)(b off cap:aa)(x y z:dh)(w:ag)(hC:uI w b off 2 x y z):bg 196 #[op,ae (some (b,off)) 2 cap] w (k1 (kK op x y z) w):=by
 unfold k1;have aJ:kK op x y z=(⟨1,0⟩,ug x y):=by rcases aA with rfl|rfl<;>rfl
 rw[aJ];clear aJ;obtain⟨af,aY,a',bu⟩:=hC;obtain⟨mG,mF⟩:=aY (by decide);obtain⟨pD,pC⟩:=a' (by decide);clear aY a' bu;obtain⟨ep,fj⟩:=x;obtain⟨f_,h5⟩:=y;dsimp only at*;unfold ug;dsimp only;rcases aA with rfl|rfl
 all_goals
  go_enter func196,ntmps196
  go_upto_region 21 with fail
  generalize aL:(w.alloc _).alloc _=W at*;obtain⟨bp,bh,bm⟩:=Kept.a_ aL;clear aL;have hE:=bG af bp.size;have nV:=bp.aI af mG;have nU:=bp.aI af mF;have rQ:=bp.aI af pD;have rP:=bp.aI af pC;have bU:b≠w.heap.size:=by omega
  have bM:=I (λ(k e:J)=>jc k e bh bp (bB _));obtain⟨aY,bq,f1⟩:=bh.q;obtain⟨a',b5⟩:=bm.p;by_cases ab:f_=ep
  case neg=>
   have aH:(ep==f_)=false:=by simpa using (vB ab)
   go_region
   all_goals
    go_wp2_with fail
    obtain⟨de,aS⟩:=bM.out 1 0;have da:=de.drew.cell;exact bI (v:=bj #[aF #[ah 1,()],bR false]) (by simp[results,results196,go_sem,da]) rfl ⟨(by simp[aH]),aS.drew⟩
  subst ab;by_cases ad:h5=fj
  case neg=>
   have aH:(fj==h5)=false:=by simpa using (vB ad)
   go_region
   all_goals
    go_wp2_with fail
    obtain⟨de,aS⟩:=bM.out 1 0;have da:=de.drew.cell;exact bI (v:=bj #[aF #[ah 1,()],bR false]) (by simp[results,results196,go_sem,da]) rfl ⟨(by simp[aH]),aS.drew⟩
  subst ad;go_region
  all_goals
   go_wp2_with fail
   obtain⟨de,aS⟩:=bM.out 1 0;have da:=de.drew.cell;exact bI (v:=bj #[aF #[ah 1,()],bR true]) (by simp[results,results196,go_sem,da]) rfl ⟨(by simp),aS.drew⟩
def aoi(op:J)(aA:op=23\/op=24)(b off cap:aa)(x y z:dh)(w:ag)(hC:uI w b off 2 x y z):bg 196 #[op,ae (some (b,off)) 2 cap] w (k1 (kK op x y z) w):=by
 unfold k1;have aJ:kK op x y z=(⟨1,0⟩,x.k==1&&y.k==1):=by rcases aA with rfl|rfl<;>rfl
 rw[aJ];clear aJ;obtain⟨af,aY,a',bu⟩:=hC;obtain⟨mG,mF⟩:=aY (by decide);obtain⟨pD,pC⟩:=a' (by decide);clear aY a' bu;obtain⟨ep,fj⟩:=x;obtain⟨f_,h5⟩:=y;dsimp only at*;rcases aA with rfl|rfl
 all_goals
  go_enter func196,ntmps196
  go_upto_region 27 with fail
  generalize aL:(w.alloc _).alloc _=W at*;obtain⟨bp,bh,bm⟩:=Kept.a_ aL;clear aL;have hE:=bG af bp.size;have nV:=bp.aI af mG;have nU:=bp.aI af mF;have rQ:=bp.aI af pD;have rP:=bp.aI af pC;have bU:b≠w.heap.size:=by omega
  have bM:=I (λ(k e:J)=>jc k e bh bp (bB _));obtain⟨aY,bq,f1⟩:=bh.q;obtain⟨a',b5⟩:=bm.p;by_cases ab:ep=1
  case neg=>
   have aH:(ep==1)=false:=by simpa using ab
   go_region
   all_goals
    go_wp2_with fail
    obtain⟨de,aS⟩:=bM.out 1 0;have da:=de.drew.cell;exact bI (v:=bj #[aF #[ah 1,()],bR false]) (by simp[results,results196,go_sem,da]) rfl ⟨(by simp[aH]),aS.drew⟩
  subst ab;go_region
  all_goals
   go_wp2_with fail
   obtain⟨de,aS⟩:=bM.out 1 0;have da:=de.drew.cell;exact bI (v:=bj #[aF #[ah 1,()],bR (f_==1)]) (by simp[results,results196,go_sem,da]) rfl ⟨(by simp),aS.drew⟩
def aok(op:J)(aA:op=26)(b off cap:aa)(x y z:dh)(w:ag)(hC:uI w b off 3 x y z):bg 196 #[op,ae (some (b,off)) 3 cap] w (k1 (kK op x y z) w):=by
 unfold k1;have aJ:kK op x y z=(y,x.k==1&&ug y z):=by rcases aA with rfl<;>rfl
 rw[aJ];clear aJ;obtain⟨af,aY,a',bu⟩:=hC;obtain⟨mG,mF⟩:=aY (by decide);obtain⟨pD,pC⟩:=a' (by decide);obtain⟨x2k,x2e⟩:=bu (by decide);clear aY a' bu;obtain⟨ep,fj⟩:=x;obtain⟨f_,h5⟩:=y;obtain⟨Bb,E6⟩:=z;dsimp only at*;unfold ug;dsimp only;obtain rfl:=aA;go_enter func196,ntmps196
 go_upto_region 29 with fail
 generalize aL:(w.alloc _).alloc _=W at*;obtain⟨bp,bh,bm⟩:=Kept.a_ aL;clear aL;have hE:=bG af bp.size;have nV:=bp.aI af mG;have nU:=bp.aI af mF;have rQ:=bp.aI af pD;have rP:=bp.aI af pC;have z2k:=bp.aI af x2k;have z2e:=bp.aI af x2e;have bU:b≠w.heap.size:=by omega
 have bM:=I (λ(k e:J)=>jc k e bh bp (bB _));obtain⟨aY,bq,f1⟩:=bh.q;obtain⟨a',b5⟩:=bm.p;by_cases ar:ep=1
 case neg=>
  have aH:(ep==1)=false:=by simpa using ar
  go_region
  all_goals
   go_wp2_with fail
   obtain⟨de,aS⟩:=bM.out f_ h5;have da:=de.drew.cell;exact bI (v:=bj #[aF #[f_,h5],bR false]) (by simp[results,results196,go_sem,da]) rfl ⟨(by simp[aH]),aS.drew⟩
 subst ar;by_cases ab:Bb=f_
 case neg=>
  have aH:(f_==Bb)=false:=by simpa using (vB ab)
  go_region
  all_goals
   go_wp2_with fail
   obtain⟨de,aS⟩:=bM.out f_ h5;have da:=de.drew.cell;exact bI (v:=bj #[aF #[f_,h5],bR false]) (by simp[results,results196,go_sem,da]) rfl ⟨(by simp[aH]),aS.drew⟩
 subst ab;by_cases ad:E6=h5
 case neg=>
  have aH:(h5==E6)=false:=by simpa using (vB ad)
  go_region
  all_goals
   go_wp2_with fail
   obtain⟨de,aS⟩:=bM.out Bb h5;have da:=de.drew.cell;exact bI (v:=bj #[aF #[Bb,h5],bR false]) (by simp[results,results196,go_sem,da]) rfl ⟨(by simp[aH]),aS.drew⟩
 subst ad;go_region
 all_goals
  go_wp2_with fail
  obtain⟨de,aS⟩:=bM.out Bb E6;have da:=de.drew.cell;exact bI (v:=bj #[aF #[Bb,E6],bR true]) (by simp[results,results196,go_sem,da]) rfl ⟨(by simp),aS.drew⟩
def aol(op:J)(aA:op=27\/op=28)(b off cap:aa)(x y z:dh)(w:ag)(hC:uI w b off 2 x y z):bg 196 #[op,ae (some (b,off)) 2 cap] w (k1 (kK op x y z) w):=by
 unfold k1;have aJ:kK op x y z=(x,x.k==5&&y.k==2):=by rcases aA with rfl|rfl<;>rfl
 rw[aJ];clear aJ;obtain⟨af,aY,a',bu⟩:=hC;obtain⟨mG,mF⟩:=aY (by decide);obtain⟨pD,pC⟩:=a' (by decide);clear aY a' bu;obtain⟨ep,fj⟩:=x;obtain⟨f_,h5⟩:=y;dsimp only at*;rcases aA with rfl|rfl
 all_goals
  go_enter func196,ntmps196
  go_upto_region 32 with fail
  generalize aL:(w.alloc _).alloc _=W at*;obtain⟨bp,bh,bm⟩:=Kept.a_ aL;clear aL;have hE:=bG af bp.size;have nV:=bp.aI af mG;have nU:=bp.aI af mF;have rQ:=bp.aI af pD;have rP:=bp.aI af pC;have bU:b≠w.heap.size:=by omega
  have bM:=I (λ(k e:J)=>jc k e bh bp (bB _));obtain⟨aY,bq,f1⟩:=bh.q;obtain⟨a',b5⟩:=bm.p;by_cases ab:ep=5
  case neg=>
   have aH:(ep==5)=false:=by simpa using ab
   go_region
   all_goals
    go_wp2_with fail
    obtain⟨de,aS⟩:=bM.out ep fj;have da:=de.drew.cell;exact bI (v:=bj #[aF #[ep,fj],bR false]) (by simp[results,results196,go_sem,da]) rfl ⟨(by simp[aH]),aS.drew⟩
  subst ab;go_region
  all_goals
   go_wp2_with fail
   obtain⟨de,aS⟩:=bM.out 5 fj;have da:=de.drew.cell;exact bI (v:=bj #[aF #[ah 5,fj],bR (f_==2)]) (by simp[results,results196,go_sem,da]) rfl ⟨(by simp),aS.drew⟩
def aom(op:J)(aA:op=29\/op=30)(b off cap:aa)(x y z:dh)(w:ag)(hC:uI w b off 2 x y z):bg 196 #[op,ae (some (b,off)) 2 cap] w (k1 (kK op x y z) w):=by
 unfold k1;have aJ:kK op x y z=(⟨2,0⟩,x.k==5&&y.k==5):=by rcases aA with rfl|rfl<;>rfl
 rw[aJ];clear aJ;obtain⟨af,aY,a',bu⟩:=hC;obtain⟨mG,mF⟩:=aY (by decide);obtain⟨pD,pC⟩:=a' (by decide);clear aY a' bu;obtain⟨ep,fj⟩:=x;obtain⟨f_,h5⟩:=y;dsimp only at*;rcases aA with rfl|rfl
 all_goals
  go_enter func196,ntmps196
  go_upto_region 35 with fail
  generalize aL:(w.alloc _).alloc _=W at*;obtain⟨bp,bh,bm⟩:=Kept.a_ aL;clear aL;have hE:=bG af bp.size;have nV:=bp.aI af mG;have nU:=bp.aI af mF;have rQ:=bp.aI af pD;have rP:=bp.aI af pC;have bU:b≠w.heap.size:=by omega
  have bM:=I (λ(k e:J)=>jc k e bh bp (bB _));obtain⟨aY,bq,f1⟩:=bh.q;obtain⟨a',b5⟩:=bm.p;by_cases ab:ep=5
  case neg=>
   have aH:(ep==5)=false:=by simpa using ab
   go_region
   all_goals
    go_wp2_with fail
    obtain⟨de,aS⟩:=bM.out 2 0;have da:=de.drew.cell;exact bI (v:=bj #[aF #[ah 2,()],bR false]) (by simp[results,results196,go_sem,da]) rfl ⟨(by simp[aH]),aS.drew⟩
  subst ab;go_region
  all_goals
   go_wp2_with fail
   obtain⟨de,aS⟩:=bM.out 2 0;have da:=de.drew.cell;exact bI (v:=bj #[aF #[ah 2,()],bR (f_==5)]) (by simp[results,results196,go_sem,da]) rfl ⟨(by simp),aS.drew⟩
def aon(op:J)(aA:op=31\/op=32)(b off cap:aa)(x y z:dh)(w:ag)(hC:uI w b off 1 x y z):bg 196 #[op,ae (some (b,off)) 1 cap] w (k1 (kK op x y z) w):=by
 unfold k1;have aJ:kK op x y z=(⟨2,0⟩,x.k==5):=by rcases aA with rfl|rfl<;>rfl
 rw[aJ];clear aJ;obtain⟨af,aY,a',bu⟩:=hC;obtain⟨mG,mF⟩:=aY (by decide);clear aY a' bu;obtain⟨ep,fj⟩:=x;dsimp only at*;rcases aA with rfl|rfl
 all_goals
  go_enter func196,ntmps196
  go_upto_region 38 with fail
  generalize aL:(w.alloc _).alloc _=W at*;obtain⟨bp,bh,bm⟩:=Kept.a_ aL;clear aL;have hE:=bG af bp.size;have nV:=bp.aI af mG;have nU:=bp.aI af mF;have bU:b≠w.heap.size:=by omega
  have bM:=I (λ(k e:J)=>jc k e bh bp (bB _));obtain⟨aY,bq,f1⟩:=bh.q;obtain⟨a',b5⟩:=bm.p;go_region
  all_goals
   go_wp2_with fail
   obtain⟨de,aS⟩:=bM.out 2 0;have da:=de.drew.cell;exact bI (v:=bj #[aF #[ah 2,()],bR (ep==5)]) (by simp[results,results196,go_sem,da]) rfl ⟨rfl,aS.drew⟩
end Go.Proofs.YtilhklpfkgbikaaGreatDoor
