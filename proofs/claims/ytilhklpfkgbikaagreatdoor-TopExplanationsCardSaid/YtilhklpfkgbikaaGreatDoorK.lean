import Derived.Test.YtilhklpfkgbikaaGreatDoorF
set_option linter.all false
namespace Go.Proofs.YtilhklpfkgbikaaGreatDoor
open Go.RowKit Go.Proofs.Tryz
set_option maxRecDepth 100000
set_option maxHeartbeats 8000000
def aof(op:J)(aA:op=17\/op=18)(b off cap:aa)(x y z:dh)(w:ag)(hC:uI w b off 2 x y z):bg 196 #[op,ae (some (b,off)) 2 cap] w (k1 (kK op x y z) w):=by
 unfold k1;have aJ:kK op x y z=(x,ug x y&&(nt x.k||x.k==5)):=by rcases aA with rfl|rfl<;>rfl
 rw[aJ];clear aJ;obtain⟨af,aY,a',bu⟩:=hC;obtain⟨mG,mF⟩:=aY (by decide);obtain⟨pD,pC⟩:=a' (by decide);clear aY a' bu;obtain⟨ep,fj⟩:=x;obtain⟨f_,h5⟩:=y;dsimp only at*;have b3:=I (λk w1=>L3 k w1);unfold ug;dsimp only;rcases aA with rfl|rfl
 all_goals
  go_enter func196,ntmps196
  go_upto_region 18 with fail
  generalize aL:(w.alloc _).alloc _=W at*;obtain⟨bp,bh,bm⟩:=Kept.a_ aL;clear aL;have hE:=bG af bp.size;have nV:=bp.aI af mG;have nU:=bp.aI af mF;have rQ:=bp.aI af pD;have rP:=bp.aI af pC;have bU:b≠w.heap.size:=by omega
  have bM:=I (λ(k e:J)=>jc k e bh bp (bB _));obtain⟨aY,bq,f1⟩:=bh.q;obtain⟨a',b5⟩:=bm.p;by_cases ab:f_=ep
  case neg=>
   have aH:(ep==f_)=false:=by simpa using (vB ab)
   go_region
   all_goals
    go_wp2_with fail
    obtain⟨de,aS⟩:=bM.out ep fj;have da:=de.drew.cell;exact bI (v:=bj #[aF #[ep,fj],bR false]) (by simp[results,results196,go_sem,da]) rfl ⟨(by simp[aH]),aS.drew⟩
  subst ab;by_cases ad:h5=fj
  case neg=>
   have aH:(fj==h5)=false:=by simpa using (vB ad)
   go_region
   all_goals
    go_wp2_with fail
    obtain⟨de,aS⟩:=bM.out f_ fj;have da:=de.drew.cell;exact bI (v:=bj #[aF #[f_,fj],bR false]) (by simp[results,results196,go_sem,da]) rfl ⟨(by simp[aH]),aS.drew⟩
  subst ad;have oF:=b3.out f_
  cases az:nt f_
  case false=>
   rw[az]at oF;have yk:=I oF;clear oF;have eF:=I (show∀X:ag,Kept w X->Kept w X/\aU X (b,off)=some (ah f_)/\aU X (b,off+1)=some (ah h5)/\aU X (b,off+2)=some (ah f_)/\aU X (b,off+2+1)=some (ah h5)from λX h=>⟨h,h.aI af mG,h.aI af mF,h.aI af pD,h.aI af pC⟩);go_region_held3 (λX=>Kept w X/\aU X (b,off)=some (ah f_)/\aU X (b,off+1)=some (ah h5)/\aU X (b,off+2)=some (ah f_)/\aU X (b,off+2+1)=some (ah h5))
    ((refine eF _ ?_;(with_reducible first|exact bp.drew|exact bp.ie.ie.drew)))
    ((go_at_call 213;refine (yk _).mono ?_;rintro e w1⟨rfl,rfl⟩))
   all_goals
    go_wp2_with fail
    obtain⟨de,aS⟩:=bM.out f_ h5;have da:=de.drew.cell;exact bI (v:=bj #[aF #[f_,h5],bR (f_==5)]) (by simp[results,results196,go_sem,da]) rfl ⟨(by simp[az]),aS.drew⟩
  case true=>
   rw[az]at oF;have yk:=I oF;have hN:=I (show∀s∈([(24,w.heap.size,94,#[f_,h5])]:List kQ),∃cs,aB W s.2.1 s.2.2.1 cs/\cs.size=s.2.2.2.size from by
    intro s aO;simp only[fM,nA,nd]at aO;subst aO;exact⟨_,bh,rfl⟩)
   have kB:=I (show∀g,g≠w.heap.size->∀s∈([(24,w.heap.size,94,#[f_,h5])]:List kQ),g≠s.2.1 from by
    intro g al s aO;simp only[fM,nA,nd]at aO;subst aO;exact al)
   have fl:=I (show rb [(24,w.heap.size,94,#[f_,h5])]from Tg ..);have eU:=fb.cell (n:=26) (kB b bU) hE nV;have dr:=fb.cell (n:=26) (kB b bU) hE nU;have eV:=fb.cell (n:=26) (kB b bU) hE rQ;have jP:=fb.cell (n:=26) (kB b bU) hE rP;have NE:Nonempty (fb W 26 [(24,w.heap.size,94,#[f_,h5])]):=fb.ne hN;clear oF bM nV nU rQ rP aY bq f1 a' b5;refine C8 (C:=h9 W 26 [(24,w.heap.size,94,#[f_,h5])]) (by kernel_rfl) (by kernel_rfl) (by kernel_rfl) (λ_ _ h=>h.zg) (h9.start hN) ?_;refine p8 [_,_,_,_,_,_,_,_,_,_,_,_,_,_,_] [_,_,_,_,_,_,_,_,_,_,_] 0 _ rfl (by simp) ?_
   repeat (go_big_quiet_step (exact rfl))
   refine f' ?_;apply Yo (bR true) (by simp) rfl
   .intro X;go_big_quiet_step (first|(go_at_call 213;exact Bv.pure (yk _)))
    exact f' rfl
   .exact λu hu=>by simpa[Act.put] using hu
   refine p8 [_,_,_,_,_,_,_,_] [_,_] _ _ rfl (by simp) ?_
   repeat (go_big_quiet_step (exact rfl))
   refine f' ?_;refine rF (g:=w.heap.size) (T:=94) (cs:=[ah f_,h5]) (by simp) (fl.apart _ (by simp)) rfl rfl rfl rfl rfl (by kernel_rfl) rfl ?_;refine p8 [_] [] _ _ rfl (by simp) ?_
   repeat (go_big_quiet_step (exact rfl))
   refine f' ?_;refine CJ ?_;intro DA mb mQ h2;have qX:=h2.new mQ (s:=(24,_,_,_)) (by simp;exact⟨rfl,rfl,rfl⟩) (by simp only;omega);have k':=I (h2.kept bp (λs aO=>by simp only[fM,nA,nd]at aO;subst aO;exact bB _));go_wp2_with fail
   have da:=qX.cell;exact bI (v:=bj #[aF #[f_,h5],bR true]) (by simp[results,results196,go_sem,da]) rfl ⟨(by simp),k'⟩
def aoh(op:J)(aA:op=21\/op=22)(b off cap:aa)(x y z:dh)(w:ag)(hC:uI w b off 2 x y z):bg 196 #[op,ae (some (b,off)) 2 cap] w (k1 (kK op x y z) w):=by
 unfold k1;have aJ:kK op x y z=(⟨1,0⟩,ug x y&&(nt x.k||x.k==5)):=by rcases aA with rfl|rfl<;>rfl
 rw[aJ];clear aJ;obtain⟨af,aY,a',bu⟩:=hC;obtain⟨mG,mF⟩:=aY (by decide);obtain⟨pD,pC⟩:=a' (by decide);clear aY a' bu;obtain⟨ep,fj⟩:=x;obtain⟨f_,h5⟩:=y;dsimp only at*;have b3:=I (λk w1=>L3 k w1);unfold ug;dsimp only;rcases aA with rfl|rfl
 all_goals
  go_enter func196,ntmps196
  go_upto_region 24 with fail
  generalize aL:(w.alloc _).alloc _=W at*;obtain⟨bp,bh,bm⟩:=Kept.a_ aL;clear aL;have hE:=bG af bp.size;have nV:=bp.aI af mG;have nU:=bp.aI af mF;have rQ:=bp.aI af pD;have rP:=bp.aI af pC;have bU:b≠w.heap.size:=by omega
  have bM:=I (λ(k e:J)=>jc k e bh bp (bB _));obtain⟨aY,bq,f1⟩:=bh.q;obtain⟨a',b5⟩:=bm.p;by_cases ab:f_=ep
  case neg=>
   have aH:(ep==f_)=false:=by simpa using (vB ab)
   go_region
   all_goals
    go_wp2_with fail
    obtain⟨de,aS⟩:=bM.out 1 0;have da:=de.drew.cell;exact bI (v:=bj #[aF #[ah 1,()],bR false]) (by simp[results,results196,go_sem,da]) rfl ⟨(by simp[aH]),aS.drew⟩
  subst ab;by_cases ad:h5=fj
  case neg=>
   have aH:(fj==h5)=false:=by simpa using (vB ad)
   go_region
   all_goals
    go_wp2_with fail
    obtain⟨de,aS⟩:=bM.out 1 0;have da:=de.drew.cell;exact bI (v:=bj #[aF #[ah 1,()],bR false]) (by simp[results,results196,go_sem,da]) rfl ⟨(by simp[aH]),aS.drew⟩
  subst ad;have oF:=b3.out f_
  cases az:nt f_
  case false=>
   rw[az]at oF;have yk:=I oF;have hN:=I (show∀s∈([(22,w.heap.size,94,#[ah 1,()])]:List kQ),∃cs,aB W s.2.1 s.2.2.1 cs/\cs.size=s.2.2.2.size from by
    intro s aO;simp only[fM,nA,nd]at aO;subst aO;exact⟨_,bh,rfl⟩)
   have kB:=I (show∀g,g≠w.heap.size->∀s∈([(22,w.heap.size,94,#[ah 1,()])]:List kQ),g≠s.2.1 from by
    intro g al s aO;simp only[fM,nA,nd]at aO;subst aO;exact al)
   have fl:=I (show rb [(22,w.heap.size,94,#[ah 1,()])]from Tg ..);have eU:=fb.cell (n:=24) (kB b bU) hE nV;have dr:=fb.cell (n:=24) (kB b bU) hE nU;have eV:=fb.cell (n:=24) (kB b bU) hE rQ;have jP:=fb.cell (n:=24) (kB b bU) hE rP;have Na:w.heap.size+1≠w.heap.size:=by omega
   have pF:=fb.cell (n:=24) (kB _ Na) b5 (a' 0);have vz:=fb.cell (n:=24) (kB _ Na) b5 (a' 1);have NE:Nonempty (fb W 24 [(22,w.heap.size,94,#[ah 1,()])]):=fb.ne hN;clear oF bM nV nU rQ rP aY bq f1 a' b5;refine C8 (C:=h9 W 24 [(22,w.heap.size,94,#[ah 1,()])]) (by kernel_rfl) (by kernel_rfl) (by kernel_rfl) (λ_ _ h=>h.zg) (h9.start hN) ?_;refine p8 [_,_,_,_,_,_,_,_,_,_,_,_,_] [_,_,_,_,_,_,_,_,_,_,_] 0 _ rfl (by simp) ?_
   repeat (go_big_quiet_step (exact rfl))
   refine f' ?_;apply Yo (bR false) (by simp) rfl
   .intro X;go_big_quiet_step (first|(go_at_call 213;exact Bv.pure (yk _)))
    exact f' rfl
   .exact λu hu=>by simpa[Act.put] using hu
   refine p8 [_,_,_,_,_,_,_,_] [_,_] _ _ rfl (by simp) ?_
   repeat (go_big_quiet_step (exact rfl))
   refine f' ?_;refine rF (g:=w.heap.size) (T:=94) (cs:=[ah 1,ah 0]) (by simp) (fl.apart _ (by simp)) rfl rfl rfl rfl rfl (by kernel_rfl) rfl ?_;refine p8 [_] [] _ _ rfl (by simp) ?_
   repeat (go_big_quiet_step (exact rfl))
   refine f' ?_;refine CJ ?_;intro DA mb mQ h2;have qX:=h2.new mQ (s:=(22,_,_,_)) (by simp;exact⟨rfl,rfl,rfl⟩) (by simp only;omega);have k':=I (h2.kept bp (λs aO=>by simp only[fM,nA,nd]at aO;subst aO;exact bB _));go_wp2_with fail
   have da:=qX.cell;exact bI (v:=bj #[aF #[ah 1,()],bR (f_==5)]) (by simp[results,results196,go_sem,da]) rfl ⟨(by simp),k'⟩
  case true=>
   rw[az]at oF;have yk:=I oF;have hN:=I (show∀s∈([(22,w.heap.size,94,#[ah 1,()])]:List kQ),∃cs,aB W s.2.1 s.2.2.1 cs/\cs.size=s.2.2.2.size from by
    intro s aO;simp only[fM,nA,nd]at aO;subst aO;exact⟨_,bh,rfl⟩)
   have kB:=I (show∀g,g≠w.heap.size->∀s∈([(22,w.heap.size,94,#[ah 1,()])]:List kQ),g≠s.2.1 from by
    intro g al s aO;simp only[fM,nA,nd]at aO;subst aO;exact al)
   have fl:=I (show rb [(22,w.heap.size,94,#[ah 1,()])]from Tg ..);have eU:=fb.cell (n:=24) (kB b bU) hE nV;have dr:=fb.cell (n:=24) (kB b bU) hE nU;have eV:=fb.cell (n:=24) (kB b bU) hE rQ;have jP:=fb.cell (n:=24) (kB b bU) hE rP;have Na:w.heap.size+1≠w.heap.size:=by omega
   have pF:=fb.cell (n:=24) (kB _ Na) b5 (a' 0);have vz:=fb.cell (n:=24) (kB _ Na) b5 (a' 1);have NE:Nonempty (fb W 24 [(22,w.heap.size,94,#[ah 1,()])]):=fb.ne hN;clear oF bM nV nU rQ rP aY bq f1 a' b5;refine C8 (C:=h9 W 24 [(22,w.heap.size,94,#[ah 1,()])]) (by kernel_rfl) (by kernel_rfl) (by kernel_rfl) (λ_ _ h=>h.zg) (h9.start hN) ?_;refine p8 [_,_,_,_,_,_,_,_,_,_,_,_,_] [_,_,_,_,_,_,_,_,_,_,_] 0 _ rfl (by simp) ?_
   repeat (go_big_quiet_step (exact rfl))
   refine f' ?_;apply Yo (bR true) (by simp) rfl
   .intro X;go_big_quiet_step (first|(go_at_call 213;exact Bv.pure (yk _)))
    exact f' rfl
   .exact λu hu=>by simpa[Act.put] using hu
   refine p8 [_,_,_,_,_,_,_,_] [_,_] _ _ rfl (by simp) ?_
   repeat (go_big_quiet_step (exact rfl))
   refine f' ?_;refine rF (g:=w.heap.size) (T:=94) (cs:=[ah 1,ah 0]) (by simp) (fl.apart _ (by simp)) rfl rfl rfl rfl rfl (by kernel_rfl) rfl ?_;refine p8 [_] [] _ _ rfl (by simp) ?_
   repeat (go_big_quiet_step (exact rfl))
   refine f' ?_;refine CJ ?_;intro DA mb mQ h2;have qX:=h2.new mQ (s:=(22,_,_,_)) (by simp;exact⟨rfl,rfl,rfl⟩) (by simp only;omega);have k':=I (h2.kept bp (λs aO=>by simp only[fM,nA,nd]at aO;subst aO;exact bB _));go_wp2_with fail
   have da:=qX.cell;exact bI (v:=bj #[aF #[ah 1,()],bR true]) (by simp[results,results196,go_sem,da]) rfl ⟨(by simp),k'⟩
end Go.Proofs.YtilhklpfkgbikaaGreatDoor
