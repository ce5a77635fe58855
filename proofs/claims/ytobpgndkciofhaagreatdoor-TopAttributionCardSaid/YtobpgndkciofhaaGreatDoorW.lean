import Derived.Test.YtobpgndkciofhaaGreatDoorV
set_option linter.all false
namespace Go.Proofs.YtobpgndkciofhaaGreatDoor
open Go.RowKit Go.Proofs.Tryz
open Go.Lib (hid)
set_option maxRecDepth 100000
set_option maxHeartbeats 8000000
theorem Ly {w w1:World} {n:Nat} (cR:w1.ownsRow w.heap.size 3 1 (.slice (some ⟨w.heap.size,0,none⟩) n n) n (madeCells (Value.int .i64 0).cells (n*1)).toList) (cd:w.grownBy w1 none):
  ao w1 w.heap.size 3 (rW (List.replicate n 0))∧Kept w w1:=by
 have e:=toList_madeCells_one (Value.int .i64 0) (n*1);rw[show (Value.int .i64 0).cells=#[Value.int .i64 0]from rfl,e]at cR;refine⟨?_,⟨cd.os,cd.tape,cd.output,cd.size,fun b J=>cd.block b J (by simp)⟩⟩;have h:=J2 cR (by simp);unfold rW;rwa [Nat.mul_one,←List.map_replicate]at h
theorem h8.LM (v:Value):h8 aR v:=fun g h=>by cases h
theorem f'.start {w:World} {B bG T R g n:Nat} {wt:List Int} (kd:ao w bG 92 (List.replicate n (.slice none 0 0)).toArray) (bl:ao w T 3 (rW wt)) (ai:ao w g 3 #[]) (aw:ao w R 177 #[.slice (some ⟨g,0,none⟩) 0 0])
  (ut:bG≠T) (yT:bG≠R) (lz:T≠R) (anO:g≠bG) (gt:g≠T) (anN:g≠R) (ez:B≤bG) (lt:B≤T) (vM:B≤R) (Y':B≤g):
  f' w B bG T R (List.replicate n (.slice none 0 0)) (List.replicate n []) (.slice (some ⟨g,0,none⟩) 0 0) [] aR [] wt:=by
 have key:∀(d:Nat) (u:Value),(List.replicate n (Value.slice none 0 0)++[.slice (some ⟨g,0,none⟩) 0 0,.slice none 0 0])[d]?=some u→u= .slice none 0 0∨(d=n∧u= .slice (some ⟨g,0,none⟩) 0 0):=fun d u h=>by
  rcases Nat.lt_or_ge d n with av|av
  ·rw[List.getElem?_append_left (by simpa using av),List.getElem?_replicate,if_pos av]at h;exact .inl (Option.some.inj h).symm
  ·rw[List.getElem?_append_right (by simpa using av),List.length_replicate]at h;by_cases aj:d=n
   ·subst aj;rw[Nat.sub_self]at h;exact .inr ⟨rfl,(Option.some.inj h).symm⟩
   ·by_cases I:d=n+1
    ·subst I;rw[show n+1-n=1 by omega]at h;exact .inl (Option.some.inj h).symm
    ·rw[List.getElem?_eq_none (by simp;omega)]at h
     cases h
 have agc:∀(d:Nat) (l:List Int),(List.replicate n ([]:List Int)++[[],[]])[d]?=some l→l=[]:=fun d l h=>by
  have:=List.mem_of_getElem? h;rw[List.mem_append]at this;rcases this with h|h
  ·exact (List.mem_replicate.1 h).2
  ·simpa using h
 have cR:cn w B (.slice (some ⟨g,0,none⟩) 0 0) []:=⟨rfl,.inr ⟨g,0,#[],rfl,Y',ai,Nat.le_refl _,Nat.zero_le _,rfl,rfl⟩⟩;refine⟨kd,bl,aw,⟨by simp,fun d u l hu aq=> ?_,fun d eR u km bQ I U=> ?_,fun d u hu x af=> ?_,fun x af=> ?_⟩,by simp,ut,yT,lz,ez,lt,vM⟩
 ·rw[agc d l aq];rcases key d u hu with rfl|⟨_,rfl⟩
  ·exact World.ownsRow_nil _ _ _ _
  ·exact cR
 ·rcases key d u I with rfl|⟨az,rfl⟩
  ·exact h8.LM _
  ·rcases key eR km U with rfl|⟨a6,rfl⟩
   ·exact (h8.LM _).symm
   ·exact absurd (az.trans a6.symm) bQ
 ·rcases key d u hu with rfl|⟨_,rfl⟩
  ·intro h;cases h
  ·intro h;have:=Option.some.inj h;simp only[List.mem_cons,List.not_mem_nil,or_false]at af;simp only at this;rcases af with rfl|rfl|rfl
   ·exact anO this
   ·exact gt this
   ·exact anN this
 ·simp only[List.mem_cons,List.not_mem_nil,or_false]at af;rcases af with rfl|rfl|rfl
  ·exact kd.lt
  ·exact bl.lt
  ·exact aw.lt
def ahC (B:Nat) (l:List Int) (w:World) (e:Ending) (w':World):Prop:=∃u,e= .returned (.tuple #[u,()])∧cn w' B u l∧Kept w w'
theorem Two.QY {w w1 w2:World} {a:Option Nat} {r:Nat} (aa:Kept w w1) (h:Two w1 w2 a r) (aH:w.heap.size≤r) (aZ:∀g,a=some g→w.heap.size≤g):Kept w w2:=
 ⟨h.os.trans aa.os,h.tape.trans aa.tape,h.output.trans aa.output,Nat.le_trans aa.size h.size,fun b J=>(h.block b (bd J aa.size) (by omega) (fun e=>by have:=aZ b e.symm;omega)).trans (aa.block b J)⟩
theorem YZ {w w1 w2:World} {a:Option Nat} (aa:Kept w w1) (h:w1.grownBy w2 a) (aZ:∀g,a=some g→w.heap.size≤g):Kept w w2:=
 ⟨h.os.trans aa.os,h.tape.trans aa.tape,h.output.trans aa.output,Nat.le_trans aa.size h.size,fun b J=>(h.block b (bd J aa.size) (fun e=>by have:=aZ b e.symm;omega)).trans (aa.block b J)⟩
theorem aci {w:World} {G n:Nat} {bF:List (List Int)} (h:MO w (.slice (some ⟨G,0,none⟩) n n) bF):∀(d:Nat) (es:List Int),bF[d]?=some es→∃uF,w.cell? ⟨G,d,none⟩=some uF∧fC w uF es:=by
 intro d es av;obtain⟨A,cap,ay,_,_,af⟩:=h;obtain⟨b,off,aK,J,ah⟩:=af (by have:=(b8 av).1;omega);simp only[Value.slice.injEq]at ay;obtain⟨ay,-,-⟩:=ay;rw[←ay]at aK;simp only[Option.some.injEq,Addr.mk.injEq,and_true]at aK;obtain⟨rfl,rfl⟩:=aK;obtain⟨uF,I,U⟩:=ah d es av;unfold ed at I;rw[Nat.zero_add,Nat.mul_one]at I;exact⟨uF,I,U⟩
structure tG (w1 wr:World) (bG T R:Nat) (bF:List (List Int)) (n d:Nat) (eI:List Value) (ez:List (List Int)) (ay:Value) (rd wt:List Int):Prop where
 es:f' wr w1.heap.size bG T R eI ez ay rd aR [] wt
 dF:eI.length=n
 wl:wt.length=n
 anG:∀l∈ez,l.length≤1000*d
 rdl:rd.length≤d
 us:yU (bF.drop d) d ez=sa bF
 rds:r8 (bF.drop d) d rd=r8 bF 0 []
 wts:∀k,k<d→c4 wt k=((bF[k]?.getD []).length:Nat)
 kept:Kept w1 wr
theorem f'.aaq {w:World} {B bG T R:Nat} {eI:List Value} {ez:List (List Int)} {ay:Value} {rd:List Int} {fk:Value} {gi wt:List Int} (_h:f' w B bG T R eI ez ay rd fk gi wt) {d:Nat} {l:List Int} (aq:ez[d]?=some l):(ez++[rd,gi])[d]?=some l:=by
 rw[List.getElem?_append_left (b8 aq).1];exact aq
theorem f'.aiy {w:World} {B bG T R:Nat} {eI:List Value} {ez:List (List Int)} {ay:Value} {rd:List Int} {fk:Value} {gi wt:List Int} (_h:f' w B bG T R eI ez ay rd fk gi wt) {d:Nat} {u:Value} (aq:eI[d]?=some u):(eI++[ay,fk])[d]?=some u:=by
 rw[List.getElem?_append_left (b8 aq).1];exact aq
theorem f'.base {w:World} {B uL bG T R:Nat} {eI:List Value} {ez:List (List Int)} {ay:Value} {rd:List Int} {fk:Value} {gi wt:List Int} (h:f' w B bG T R eI ez ay rd fk gi wt) (e:uL=B):f' w uL bG T R eI ez ay rd fk gi wt:=by
 subst e;exact h
theorem tG.next {w1 wr w':World} {bG T R:Nat} {bF:List (List Int)} {n d:Nat} {eI:List Value} {ez:List (List Int)} {ay:Value} {rd wt:List Int} (h:tG w1 wr bG T R bF n d eI ez ay rd wt) {es:List Int} (ai:bF[d]?=some es) (av:d<n) (B5:es.length≤1000)
  {yN:List Value} {sY:List (List Int)} {sW:Value} {vV:List Int} (I:f' w' w1.heap.size bG T R yN sY sW vV aR [] (wt.set d es.length)) (aq:yN.length=n) (J:∀l∈sY,l.length≤1000*d+es.length) (kd:sC d es ez=sY)
  (aH:(if es.length=0 then vT rd d else rd)=vV) (aa:Kept w1 w'):tG w1 w' bG T R bF n (d+1) yN sY sW vV (wt.set d es.length):=by
 have B4:bF.drop d=es::bF.drop (d+1):=by
  rw[List.drop_eq_getElem_cons (b8 ai).1,(b8 ai).2]
 have U:=h.us;have ae:=h.rds;have aJ:=h.rdl;rw[B4,yU,kd]at U;rw[B4,r8,aH]at ae;refine⟨I,aq,by rw[List.length_set];exact h.wl,fun l hm=>by have:=J l hm;omega,?_,U,ae,fun k gC=> ?_,aa⟩
 ·rw[←aH];split
  ·rw[aac];omega
  ·omega
 ·by_cases e:d=k
  ·subst e;rw[D3 (by rw[h.wl];exact av),ai];rfl
  ·rw[GU e];exact h.wts k (by omega)
theorem ahD (v:Value) (x:bP) (w:World) (bj:iH w v x) (aw:pB x.rs) (aA:x.ds.length≤1000) (mC:∀d:Int,¬nN (gg x.ds.length x.rs) d d):Calls prog 55 #[v] w (ahC w.heap.size (o' (gg x.ds.length x.rs)) w):=by
 have dW:=hid (fun w1 (aa:Kept w w1)=>Oc v x w1 (bj.kept aa) aw aA);obtain⟨bo,b6,bA,rfl,bC,b',nn⟩:=bj;obtain⟨gN,gS,rfl,-⟩:=bC;obtain⟨fo,fS,rfl,-⟩:=b';obtain⟨eC,rc,rfl,-⟩:=nn;obtain⟨i0,aE,fy,cb,eu⟩:=info_parts Tryz.YT;obtain⟨ij,hS,hT,hU,hV⟩:=info_parts Tryz.rX;have js:=BH x.ds.length x.rs;have xL:=hid (fun l (h:l∈gg x.ds.length x.rs)=>zP h);have qi:=hid (Z0 js (fun l h=>zP h) mC);obtain⟨bF,Hf⟩:∃bF,gg x.ds.length x.rs=bF:=⟨_,rfl⟩;rw[Hf]at js xL qi⊢;have oz:(x.ds.length:Int)≤1000:=by omega
 generalize x.ds.length=n at*;generalize x.ins.length=s3 at*;generalize x.rs.length=Rt at*;have jz:=hid js;have abt:=hid Hf;clear aw mC js Hf;go_enter func55,ntmps55
 go_upto_region 1 with fail
 generalize ar:w.alloc _=W at*;obtain⟨aF,a_⟩:=Kept.az ar;clear ar;obtain⟨dL,cA⟩:=a_.p;have oO:=hid (dW.out W aF);go_upto_region 2 with (go_at_call 52;refine oO.out.mono ?_;rintro e w1 ⟨G,us,rfl,g1,g2,g3⟩;rw[abt.out]at g1;have dO:=hid (And.intro g1 g3);clear g1 g2 g3)
 have C4:=hid dO.out.1.fD.lt;have SU:=hid (dO.out.1.bF (by have:=jz.out;omega));rw[jz.out]at SU;have bB:=aF.trans dO.out.2;clear dO dW oO dL cA a_;go_upto_region 3 with (at_make;refine wpList_make_full _ rfl _ _ 149 rfl w1.heap.size 92 i0 aR 1 underlying149 aE fy cb _ _ _ _ n rfl rfl rfl rfl (by rw[eu];omega) (by unfold maxLen;omega) (Nat.le_refl _) ?_;intro w2 cR cd;have cp:=hid (Zj cR cd);clear cR cd)
 go_upto_region 4 with (at_make;refine wpList_make_full _ rfl _ _ 92 rfl w2.heap.size 3 ij () 1 underlying92 hS hT hU _ _ _ _ n rfl rfl rfl rfl (by rw[hV];omega) (by unfold maxLen;omega) (Nat.le_refl _) ?_;intro cw cR cd;have pv:=hid (Ly cR cd);clear cR cd)
 go_upto_region 5 with fail
 have hU2:w1.heap.size<w2.heap.size:=cp.out.1.fD.lt;have z1:w2.heap.size<cw.heap.size:=pv.out.1.lt;have fe:Kept w1 cw:=cp.out.2.trans pv.out.2;have ka:=f'.start (n:=n) (B:=w1.heap.size) (((cp.out.1.fD.kept pv.out.2).alloc (.cells #[] 3)).alloc (.cells #[.slice (some ⟨cw.heap.size,0,none⟩) 0 0] 177)) ((pv.out.1.alloc (.cells #[] 3)).alloc (.cells #[.slice (some ⟨cw.heap.size,0,none⟩) 0 0] 177))
  ((ao.new cw 3 #[]).alloc (.cells #[.slice (some ⟨cw.heap.size,0,none⟩) 0 0] 177)) (by have:=ao.new (cw.alloc (.cells #[] 3)) 177 #[.slice (some ⟨cw.heap.size,0,none⟩) 0 0];rwa [World.size_alloc]at this)
  (by omega) (by omega) (by omega) (by omega) (by omega) (by omega) (Nat.le_refl _) (by omega) (by omega) (by omega)
 have eO:Kept w1 ((cw.alloc (.cells #[] 3)).alloc (.cells #[.slice (some ⟨cw.heap.size,0,none⟩) 0 0] 177)):=(fe.alloc _).alloc _;have rh:=hid (aci SU.out);have We:G<w1.heap.size:=C4.out;have Wm:tG w1 ((cw.alloc (.cells #[] 3)).alloc (.cells #[.slice (some ⟨cw.heap.size,0,none⟩) 0 0] 177)) w1.heap.size w2.heap.size (cw.heap.size+1) bF n 0 _ _ _ [] _:=
  ⟨ka,List.length_replicate ..,List.length_replicate ..,fun l aq=>by rw[(List.mem_replicate.1 aq).2];exact Nat.zero_le _,Nat.le_refl _,by unfold sa;rw[jz.out];rfl,rfl,fun k aa=>absurd aa (Nat.not_lt_zero _),eO⟩
 have Jh:=hid Wm;clear Wm ka eO fe cp pv;generalize (cw.alloc (.cells #[] 3)).alloc (.cells #[.slice (some ⟨cw.heap.size,0,none⟩) 0 0] 177)=JQ at*;generalize PH:w1.heap.size=bG at*;generalize w2.heap.size=T at*;generalize cw.heap.size+1=R at*;have qk:=hid PH;have Jb:=hid (show G<w1.heap.size by rw[PH];exact We);clear PH We;go_upto_region 6 with fail
 go_loopw [29] (fun y wr=>∃(d:Nat) (eI:List Value) (ez:List (List Int)) (ay:Value) (rd wt:List Int),y= .int .i64 d∧d≤n∧tG w1 wr bG T R bF n d eI ez ay rd wt) (fun y _=>n-(intOf y).toNat)
 case atStart=>exact⟨0,_,_,_,_,_,rfl,Nat.zero_le _,Jh.out⟩
 case round=>
  obtain⟨d,eI,ez,ay,rd,wt,rfl,iV,bL⟩:=hrel;by_cases aD:d<n
  ·have ai:bF[d]?=some (bF[d]'(by have:=jz.out;omega)):=a8 _;obtain⟨kE,de⟩:=xL.out _ (List.mem_of_getElem? ai);have B5:=vQ n _ kE de;obtain⟨uF,b5,HQ⟩:=rh.out d _ ai;generalize bF[d]'(by have:=jz.out;omega)=es at*;obtain⟨SL,gZ,rfl,aX⟩:=fC.at_ HQ;have hJ:=bL.kept.ad Jb.out b5;have Pr:=bd Jb.out bL.kept.size;have t0:=bL.es.tb.cell d;rw[xe (by rw[bL.wl];exact aD)]at t0;have Sb:=bL.es.tb.frozen d;have Mt:=bL.es.tb.lt;have ym:(d:Int)<n:=by omega
   have gL:=hid (bL.es.aaC d es.length);have tU:Kept w1 (wr.setCell ⟨T,d,none⟩ es.length):=bL.kept.setCell (p:=⟨T,d,none⟩) bL.es.lt _;have Ni:=hid tU;have e7:=hid bL;have dO:=hid ai;have cv:=hid aX;have iE:=hid (And.intro kE de);have ud:=bL.dF;have vw:=hid bL.anG;have afo:=bL.rdl;clear bL tU b5 HQ ai aX kE de;go_upto_region 9 with fail
   clear t0 Sb Mt hJ;generalize wr.setCell ⟨T,d,none⟩ es.length=DJ at*;obtain⟨NU,Wn⟩:∃NU,sC d es ez=NU:=⟨_,rfl⟩;have Nq:=hid Wn;clear Wn;go_upto_region 10 with fail
   go_loopw [41] (fun y cf=>∃(j:Nat) (yN:List Value) (sY:List (List Int)),y= .int .i64 j∧j≤es.length∧f' cf bG bG T R yN sY ay rd aR [] (wt.set d es.length)∧yN.length=n∧(∀l∈sY,l.length≤1000*d+j)∧sC d (es.drop j) sY=NU∧Kept w1 cf) (fun y _=>es.length-(intOf y).toNat)
   case atStart=>exact⟨0,eI,ez,rfl,Nat.zero_le _,qk.out▸gL.out,ud,vw.out,Nq.out,Ni.out⟩
   case round=>
    obtain⟨j,yN,sY,rfl,aB,iz,Lk,Hj,aG,ab⟩:=hrel;by_cases t_:j<es.length
    ·obtain⟨gn,aox,rfl,PY,nq⟩:=cv.out (by omega);have ln:es[j]?=some es[j]:=a8 t_;have gY:=iE.out.2 _ (List.mem_of_getElem? ln);have bZ:=nq j _ ln;rw[List.drop_eq_getElem_cons t_,sC]at aG;generalize es[j]=c_ at*;obtain⟨bm,rfl⟩:∃bm:Nat,c_=bm:=⟨c_.toNat,by omega⟩;rw[Int.toNat_natCast]at aG;have gd:=ab.ad PY bZ;have alA:=bd PY ab.size;have nX:bm<yN.length:=by omega
     have Xd:bm<sY.length:=by rw[←iz.len];exact nX
     have cR:=iz.kz.own _ _ _ (iz.Fe nX).1 (iz.Fe nX).2;have u0:=iz.pd.cell bm;rw[List.getElem?_toArray,a8 nX]at u0;have ul:=iz.pd.lt;have qH:=iz.kz.far _ _ (iz.Fe nX).1 bG (by simp);have hlen:=Hj _ (List.getElem_mem Xd);have Dk:=hid (fun (dV:World) (v:Value) (m:List Int)=>(iz.alloc (.cells #[d] 3)).user (w':=dV) (v:=v) (m:=m) nX);have qI:sY[bm]?.getD []=sY[bm]:=by rw[a8 Xd];rfl
     rw[qI]at aG;have dD:=hid Hj;have HUB:=hid iz.pd;generalize pT:yN[bm]=u at*;generalize aeY:sY[bm]=MA at*;obtain⟨AO,hj,rfl⟩:=il cR;have tx:=hid cR;have bn:=hid (And.intro aG (And.intro ab Lk));have Nb:=hid qH;have zj:=hid pT;have gu:(j:Int)<es.length:=by omega
     have hei:(bm:Int)<n:=by omega
     have hUw:bG<wr.heap.size:=ul;clear iz aG ab Lk cR qH Hj qI aeY pT;go_wp2_with (at_builtin;refine wpList_append_own_at _ rfl (.tmp 50) (.tmp 52) 92 rfl bG 3 ij () 1 8 underlying92 hS hT hU hV rfl (by decide) _ MA.length (MA.map (.int .i64)) rfl (World.ownsRow.alloc tx.out _) ⟨wr.heap.size,0,none⟩ 1 1 [.int .i64 d] rfl rfl (cell_one_new _ _ _) (nz d) (by unfold maxLen;omega) (by omega) (by simp;omega) ?_;intro v6 dV aO aN _ dA;have e6:cn dV bG v6 (MA++[(d:Int)]):=r9 aO;obtain⟨q4,eQ,rfl⟩:=il aO;have FH:=(aN.block bG (by simp;omega) (fun e=>Nb.out e.symm)).trans (HUB.out.alloc _);have g6:=ao.cell FH bm;have f6:=ao.frozen FH bm;have ev:=ao.lt FH;rw[List.getElem?_toArray,a8 nX]at g6;rw[zj.out]at g6;have eN:=hid (And.intro e6 (And.intro aN dA));clear aO aN dA e6 FH)
     obtain⟨e6,z2,z3⟩:=eN.out;have FM:=hid (Dk.out _ _ _ e6 z2 z3);have pt:=hid ((YZ (bn.out.2.1.alloc (.cells #[d] 3)) z2 (fun g ai=>by rw[qk.out];exact s6 tx.out ai)).setCell (p:=⟨bG,bm,none⟩) (by rw[qk.out];exact Nat.le_refl _) (.slice q4 (MA.length+1) eQ));clear e6 z2 z3;go_roundw
     case rel=>
      refine⟨j+1,_,_,by go_num,t_,FM.out,by rw[List.length_set];exact bn.out.2.2,fun l aq=> ?_,bn.out.1,pt.out⟩;rcases List.mem_or_eq_of_mem_set aq with aq|rfl
      ·have:=dD.out l aq;omega
      ·rw[List.length_append,List.length_singleton];omega
     case measure=>simp[intOf];omega
    ·obtain rfl:j=es.length:=by omega
     have gu:¬((es.length:Int)<es.length):=by omega
     rw[List.drop_length,sC]at aG;have bn:=hid (And.intro iz (And.intro Lk (And.intro Hj (And.intro aG ab))));clear iz Lk Hj aG ab;generalize wr=Gq at*;by_cases aj:es.length=0
     ·have KB:(es.length:Int)=0:=by omega
      have cV:=hid (Xc bG R ay rd d Gq bn.out.1.hp (by omega) (by have:=bn.out.1.pd.lt;omega));have w5:=bn.out.1.kz.far _ _ bn.out.1.EN.1;go_wp2_with (go_at_call 72;refine cV.out.mono ?_;rintro e jT ⟨rfl,sb,aO,aN,cK⟩;have jh:=hid (And.intro aO (And.intro aN cK));clear aO aN cK)
      obtain⟨aO,aN,cK⟩:=jh.out;have V9:=bn.out.1.heap aO aN cK;have Wk:Kept w1 jT:=Two.QY bn.out.2.2.2.2 aN (by rw[qk.out];exact bn.out.1.vM) (fun g ai=>by rw[qk.out];exact s6 bn.out.1.hp.own ai);have bM:=e7.out.next dO.out aD (by omega) (V9.base qk.out) bn.out.2.1 bn.out.2.2.1 (Nq.out.trans bn.out.2.2.2.1.symm) (by rw[if_pos aj]) Wk;have bk:=hid bM;clear aO aN cK V9 Wk bM;go_roundw
      case rel=>exact⟨d+1,_,_,_,_,_,by go_num,aD,bk.out⟩
      case measure=>simp[intOf];omega
     ·have KB:¬(es.length:Int)=0:=by omega
      have bM:=e7.out.next dO.out aD (by omega) (bn.out.1.base qk.out) bn.out.2.1 bn.out.2.2.1 (Nq.out.trans bn.out.2.2.2.1.symm) (by rw[if_neg aj]) bn.out.2.2.2.2;have bk:=hid bM;clear bM;go_wp2_with fail
      go_roundw
      case rel=>exact⟨d+1,_,_,_,_,_,by go_num,aD,bk.out⟩
      case measure=>simp[intOf];omega
  ·obtain rfl:d=n:=by omega
   have KZ:¬((d:Int)<d):=by omega
   have Aj:ez=sa bF:=by
    have:=bL.us;rwa [List.drop_eq_nil_of_le (by have:=jz.out;omega),yU]at this
   have Qo:rd=r8 bF 0 []:=by
    have:=bL.rds;rwa [List.drop_eq_nil_of_le (by have:=jz.out;omega),r8]at this
   have HR:wt=xx bF:=by
    apply List.ext_getElem?;intro k;have Yv:(xx bF).length=d:=by unfold xx;rw[List.length_map,jz.out]
    by_cases aa:k<d
    ·have I:=bL.wts k aa;have P_:k<bF.length:=by have:=jz.out;omega
     rw[a8 P_,Option.getD_some]at I;unfold c4 at I;rw[a8 (by rw[bL.wl];exact aa),Option.getD_some]at I;rw[a8 (by rw[bL.wl];exact aa),I];unfold xx;rw[List.getElem?_map,a8 P_];rfl
    ·rw[List.getElem?_eq_none (by rw[bL.wl];omega),List.getElem?_eq_none (by omega)]
   have rH:=Y1 jz.out;rw[←HR,←Qo]at rH;have gM:=hid (And.intro (show f' wr bG bG T R eI ez ay rd aR [] wt from bL.es.base qk.out.symm) (And.intro rH (And.intro bL.dF bL.kept)));have Dk:=hid Aj;have HTT:=hid (show Cw (sa bF) (d+1) wt rd []=o' bF by rw[HR,Qo];unfold o';rw[jz.out]);have Np:=hid (fun l (h:l∈bF)=>xL.out l h);clear bL Aj Qo HR rH Jh xL;generalize wr=DJ at*;go_upto_region 18 with fail
   go_loopg [12] (d+1) (fun k fk wr=>∃(ay:Value) (rd gi wt:List Int),f' wr bG bG T R eI ez ay rd fk gi wt∧zt bF d gi wt rd∧d<k+gi.length∧Cw (sa bF) k wt rd gi=o' bF∧Kept w1 wr)
   case atStart=>exact⟨ay,rd,[],wt,gM.out.1,gM.out.2.1,by simp,HTT.out,gM.out.2.2.2⟩
   case round=>
    obtain⟨rT,xm,gi,Sn,iz,rH,aa,aG,ab⟩:=hrel;have al0:=vQ d gi (List.nodup_append.1 rH.c7).1 (fun e he=>rH.inr e (List.mem_append_left _ he));have afo:=vQ d xm (List.nodup_append.1 rH.c7).2.1 (fun e he=>rH.inr e (List.mem_append_right _ he));obtain⟨F,rfl⟩:∃F,gk=F+1:=⟨gk-1,by omega⟩;rw[Cw]at aG;obtain⟨HA2,fE,rfl⟩:=il iz.hp.own;have pa:=iz.hp.cell;have dF:=iz.fz.lt;by_cases aj:xm.length=0
    ·rw[if_pos aj]at aG;have KB:¬((0:Int)<(xm.length:Int)):=by omega
     have nt:gi.length=d:=by rw[aG];exact qi.out
     obtain⟨qo,ft,rfl⟩:=il iz.mN;have hoi:¬((gi.length:Int)<d):=by omega
     have aV:=hid (And.intro iz.mN (And.intro aG ab));clear iz rH aG ab nt;go_wp2_with (go_at_call 73;refine (hlen _ _ _ _).mono ?_;rintro e w2 ⟨rfl,rfl⟩)
     exact bodyPost_ret (v:= .tuple #[.slice qo gi.length ft,()]) (by simp[results,results55,go_sem]) rfl ⟨_,rfl,by rw[←aV.out.2.1];exact cn.low aV.out.1 (by rw[←qk.out];exact bB.size),bB.trans aV.out.2.2⟩
    ·rw[if_neg aj]at aG;have KB:(0:Int)<(xm.length:Int):=by omega
     obtain⟨ai,w0,Xq⟩:=iz.hp.some_ (by omega);rw[Xq]at iz pa;clear Xq;have cV:=hid (aeW bG R ai w0 xm wr iz.hp (by omega) (by omega));have hta:=fun (z:Int) (w:World)=>(by kernel_rfl:(Instr.typeAssert (.iface 3 z) 20 3 true).run prog w= .ok (.tuple #[z,.bool true]) w);have XV:=(Z' (l:=xm) (by omega)).mem_iff.2 (List.mem_cons_self ..);have de:=rH.inr _ (List.mem_append_right _ XV);have gp:=rH.step jz.out Np.out (by omega);have al3:=ahR xm;have lo:∀k:Nat,k<d→0≤c4 Sn k∧c4 Sn k≤1000:=fun k aa=>by
      have:=rH.Ke (k:Int) (by omega) (by omega);rw[Int.toNat_natCast]at this;rw[this];refine⟨by omega,?_⟩;have I:x_ gi (bF[k]?.getD [])≤d:=by
       unfold x_;refine Nat.le_trans (List.length_filter_le _ _) ?_;rw[a8 (by have:=jz.out;omega),Option.getD_some];obtain⟨cE,a2⟩:=Np.out _ (List.getElem_mem (show k<bF.length by have:=jz.out;omega));exact vQ d _ cE a2
      omega
     obtain⟨dj,iV⟩:∃dj:Nat,qV xm=dj:=⟨(qV xm).toNat,by omega⟩;rw[iV]at cV de gp aG;rw[Int.toNat_natCast]at gp aG;obtain⟨Yl,HP⟩:=abd jz.out Np.out dj (by omega);have pT:dj<eI.length:=by have:=gM.out.2.2.1;omega
     have Yv:=rH.wl;have Te:=hid (fun (w2:World) (hv':Value) (rd':List Int)=>iz.heap (w':=w2) (hv':=hv') (rd':=rd'));have bn:=hid (And.intro gp (And.intro aG (And.intro HP (And.intro lo ab))));have HEO:=hid iz.hp.own;have Yn:(sa bF)[dj]?.getD []=ez[dj]'(by rw[←iz.len];exact pT):=by
      rw[←Dk.out,a8 (by rw[←iz.len];exact pT)];rfl
     have F3:=hid Yn;have amg:(ez[dj]'(by rw[←iz.len];exact pT)).length≤1000:=by
      rw[←Yn];refine Nat.le_trans (vQ d _ Yl (fun u hu=> ?_)) aA;obtain⟨cE,a2⟩:=(HP u).1 hu;refine⟨cE,?_⟩;rcases Nat.lt_or_ge u.toNat bF.length with h|h
      ·have:=jz.out;omega
      ·rw[List.getElem?_eq_none h]at a2;cases a2
     have TP:=hid (show ez[dj]?=some (ez[dj]'(by rw[←iz.len];exact pT))from a8 _);generalize ez[dj]'(by rw[←iz.len];exact pT)=ul at*;obtain⟨alH,alI⟩:=de;have afr:=iz.fz.lt;have hUw:=iz.pd.lt;clear iz gp aG Yl HP lo rH ab XV;go_upto_region 20 with (first|(go_at_call 73;refine (hlen _ _ _ _).mono ?_;rintro e w2 ⟨rfl,rfl⟩)|(go_at_call 74;refine cV.out.mono ?_;rintro e w2 ⟨rfl,aO,aN⟩;have q_:=hid (And.intro (Te.out w2 _ _ aO aN (.inl rfl)) aN);clear aO aN))
     have hD:Kept w1 w2:=Two.QY bn.out.2.2.2.2 q_.out.2 (by rw[qk.out];exact q_.out.1.vM) (fun g ai=>by rw[qk.out];exact s6 HEO.out ai);have la:=hid hD;have FU:=hid q_.out.1.mN;have hU2:=q_.out.1.pd.lt;clear hD;go_upto_region 21 with (at_builtin;refine wpList_append_own_at _ rfl (.tmp 77) (.tmp 79) 92 rfl bG 3 ij () 1 8 underlying92 hS hT hU hV rfl (by decide) _ gi.length (gi.map (.int .i64)) rfl (World.ownsRow.alloc FU.out _) ⟨w2.heap.size,0,none⟩ 1 1 [.int .i64 dj] rfl rfl (cell_one_new _ _ _) (nz dj) (by unfold maxLen;omega) (by omega) (by simp;omega) ?_;intro v6 dV aO aN _ dA;have FM:=hid (And.intro ((q_.out.1.alloc (.cells #[dj] 3)).ord (r9 aO) aN dA) (YZ (la.out.alloc (.cells #[dj] 3)) aN (fun g ai=>by rw[qk.out];exact s6 FU.out ai)));clear aO aN dA)
     have D6:=FM.out.1;have u6:=D6.pd.cell dj;rw[List.getElem?_toArray,a8 pT]at u6;have ul6:=D6.pd.lt;have vE:=D6.kz.own _ _ _ (D6.Fe pT).1 (D6.aaq TP.out);have nJ:=hid (show eI[dj]?=some eI[dj]from a8 pT);generalize afv:eI[dj]=aoP at*;obtain⟨AO,hj,rfl⟩:=il vE;clear D6 vE Te cV afv;obtain⟨Bt,Gi,WM⟩:∃Bt Gi,n6 ul Sn (r6 xm)=(Bt,Gi):=⟨_,_,rfl⟩;have TY:=hid WM;have abZ:=hid (show Bt.length=Bt.length from rfl);have Ym:gU d ul:=fun u hu=>by
      rw[←F3.out]at hu;obtain⟨cE,a2⟩:=(bn.out.2.2.1 u).1 hu;refine⟨cE,?_⟩;rcases Nat.lt_or_ge u.toNat bF.length with h|h
      ·have:=jz.out;omega
      ·rw[List.getElem?_eq_none h]at a2;cases a2
     have ab2:=hid Ym;clear WM Ym abZ;go_upto_region 22 with fail
     go_loopw [86] (fun y wr=>∃(j:Nat) (hv':Value) (rd' ko:List Int),y= .int .i64 j∧j≤ul.length∧f' wr bG bG T R eI ez hv' rd' v6 (gi++[(dj:Int)]) ko∧ko.length=d∧(∀k:Nat,k<d→ -(j:Int)≤c4 ko k∧c4 ko k≤1000)∧rd'.length≤d+j∧n6 (ul.drop j) ko rd'=(Bt,Gi)∧Kept w1 wr) (fun y _=>ul.length-(intOf y).toNat)
     case atStart=>exact⟨0,_,_,_,rfl,Nat.zero_le _,FM.out.1,Yv,fun k aa=>by have:=bn.out.2.2.2.1 k aa;omega,by omega,TY.out,FM.out.2⟩
     case round=>
      obtain⟨j,hv',rd',ko,rfl,aB,aX,afI,vw,al7,aG,ab⟩:=hrel;by_cases t_:j<ul.length
      ·have qJ:ul[j]?=some ul[j]:=a8 t_;have gY:=ab2.out _ (List.mem_of_getElem? qJ);have pS:=aX.kz.own _ _ _ (aX.aiy nJ.out) (aX.aaq TP.out);obtain⟨anc,eZ,Yr,aft⟩:=cn.row pS;simp only[Value.slice.injEq,true_and]at Yr;obtain⟨rfl,rfl⟩:=Yr;obtain⟨aoN,rfl,ame,amf,Yk⟩:=aft (by omega);have bZ:=Yk j _ qJ;rw[List.drop_eq_getElem_cons t_,n6]at aG;generalize ul[j]=Fs at*;obtain⟨un,rfl⟩:∃un:Nat,Fs=un:=⟨Fs.toNat,by omega⟩;rw[Int.toNat_natCast]at aG;have qM:un<ko.length:=by omega
       have t0:=aX.tb.cell un;rw[xe qM]at t0;have Sb:=aX.tb.frozen un;have Mt:=aX.tb.lt;have rV:=vw un (by omega);have V':=aX.aaC un (c4 ko un-1);have nG:=hid (show∀k:Nat,k<d→ -((j+1:Nat):Int)≤c4 (ko.set un (c4 ko un-1)) k∧c4 (ko.set un (c4 ko un-1)) k≤1000 from fun k aa=>by
        have:=vw k aa;by_cases e:un=k
        ·subst e;rw[D3 qM];omega
        ·rw[GU e];omega)
       have Wl:Kept w1 (wr.setCell ⟨T,un,none⟩ (.int .i64 (c4 ko un-1))):=ab.setCell (p:=⟨T,un,none⟩) (by rw[qk.out];exact aX.lt) _;have wk:=hid (And.intro V' Wl);have oa:=hid aG;have TX:=hid (show (ko.set un (c4 ko un-1)).length=d by rw[List.length_set];exact afI);have e4:c4 (ko.set un (c4 ko un-1)) un=c4 ko un-1:=D3 qM _;have jX:=hid e4;have gu:(j:Int)<ul.length:=by omega
       have amh:(un:Int)<d:=by omega
       clear pS qJ vw aG V' Wl aX ab Yk e4;go_upto_region 25 with fail
       generalize hw8:wr.setCell ⟨T,un,none⟩ (.int .i64 (c4 ko un-1))=ta at*;clear hw8 t0 Sb Mt bZ;have t1:=wk.out.1.tb.cell un;rw[xe (by rw[List.length_set];exact qM),jX.out]at t1;have t1l:=wk.out.1.tb.lt;generalize ko.set un (c4 ko un-1)=wt9 at*;have I':=hid (show c4 ko un=c4 ko un from rfl);clear I';by_cases ck:c4 ko un-1=0
       ·have NJ:=hid (show n6 (ul.drop (j+1)) wt9 (vT rd' un)=(Bt,Gi) by have:=oa.out;rwa [if_pos ck]at this);have cV:=hid (Xc bG R hv' rd' un ta wk.out.1.hp (by omega) (by have:=wk.out.1.pd.lt;omega));have akT:=nG;have rU:c4 ko un=1:=by omega
        rw[rU]at t1;clear ck oa jX;go_wp2_with (go_at_call 72;refine cV.out.mono ?_;rintro e hZ ⟨rfl,v9,aO,aN,cK⟩;have l0:=hid (And.intro aO (And.intro aN cK));clear aO aN cK)
        obtain⟨aO,aN,cK⟩:=l0.out;have HE9:=hid (wk.out.1.heap aO aN cK);have hL:=hid (Two.QY wk.out.2 aN (by rw[qk.out];exact wk.out.1.vM) (fun g ai=>by rw[qk.out];exact s6 wk.out.1.hp.own ai));clear aO aN cK;go_roundw
        case rel=>exact⟨j+1,_,_,_,by go_num,t_,HE9.out,TX.out,nG.out,by rw[aac];omega,NJ.out,hL.out⟩
        case measure=>simp[intOf];omega
       ·have NJ:=hid (show n6 (ul.drop (j+1)) wt9 rd'=(Bt,Gi) by have:=oa.out;rwa [if_neg ck]at this);clear oa jX;go_wp2_with fail
        go_roundw
        case rel=>exact⟨j+1,_,_,_,by go_num,t_,wk.out.1,TX.out,nG.out,by omega,NJ.out,wk.out.2⟩
        case measure=>simp[intOf];omega
      ·obtain rfl:j=ul.length:=by omega
       have gu:¬((ul.length:Int)<ul.length):=by omega
       rw[List.drop_length,n6]at aG;simp only[Prod.mk.injEq]at aG;obtain⟨rfl,rfl⟩:=aG;have aV:=hid (And.intro aX ab);have df:=bn.out.1;have nv:=bn.out.2.1;rw[F3.out,TY.out]at df nv;have k':=hid (And.intro df nv);clear aX ab df nv;go_wp2_with fail
       go_roundg F
       case measure=>omega
       case rel=>exact⟨_,_,_,_,aV.out.1,k'.out.1,by rw[List.length_append,List.length_singleton];omega,k'.out.2,aV.out.2⟩
theorem aga (ag src:ByteArray) (bK bD fa dH dB d dt:Int) (BN CU:Option Addr) (yb gc fJ gx dy c9:Nat) (g v:List cz) (w:World) (aJ:dy<w.heap.size) (bp:c9<w.heap.size) (bN:w.cell? ⟨dy,0,none⟩=some (.int .i64 d)) (bJ:w.cell? ⟨c9,0,none⟩=some (.int .i64 dt)):
  Calls prog 103 #[.agg #[ag,bK,bD,fa,dH,dB,.slice BN yb gc,.slice CU fJ gx,src],.pointer (some ⟨dy,0,none⟩),.pointer (some ⟨c9,0,none⟩)] w
   fun e w'=>e= .returned (.bool (bV d dt ⟨ag,bK,bD,fa,dH,dB,g,v,src⟩))∧Kept w w':=by
 have bI:=hid (fun w1=>OE dH dB dt w1);have aa:bV d dt ⟨ag,bK,bD,fa,dH,dB,g,v,src⟩=(decide (bK=d)&&wO dH dB dt):=rfl;rw[aa];clear aa;have a_:=ao.new w 82 #[ag,bK,bD,fa,dH,dB,.slice BN yb gc,.slice CU fJ gx,src];have aF:Kept w (w.alloc (.cells #[ag,bK,bD,fa,dH,dB,.slice BN yb gc,.slice CU fJ gx,src] 82)):=(by with_reducible repeat first|exact .refl _|assumption|refine .drew ?_|refine .alloc ?_ _|refine .setCell ?_ (by (try simp only);omega) _|refine .trans ?_ ‹Kept _ _›);have cG:=aF.ad aJ bN;have cQ:=aF.ad bp bJ;by_cases av:bK=d
 ·subst av;rw[decide_eq_true rfl,Bool.true_and];generalize wO dH dB dt=qw at*;go_enter func103,ntmps103
  go_upto_region 1 with fail
  generalize w.alloc (.cells #[ag,bK,bD,fa,dH,dB,.slice BN yb gc,.slice CU fJ gx,src] 82)=W at*;obtain⟨dL,cA⟩:=a_.p;go_wp2_with (go_at_call 104;refine (bI.out _).mono ?_;rintro y w1 ⟨rfl,ak⟩)
  go_ret;exact⟨rfl,aF.trans ak⟩
 ·rw[decide_eq_false av,Bool.false_and];have pO:(bK==d)=false:=by simpa using av
  go_enter func103,ntmps103
  go_upto_region 1 with fail
  generalize w.alloc (.cells #[ag,bK,bD,fa,dH,dB,.slice BN yb gc,.slice CU fJ gx,src] 82)=W at*;obtain⟨dL,cA⟩:=a_.p;go_wp2_with fail
  go_ret;exact⟨rfl,aF⟩
structure lD (w:World) (B N:Nat) (bT eK:Value) (e':List Int) (l:List Nat) (p:List Int) (i n:Nat):Prop where
 nb:ao w N 3 (rW (e'++List.replicate (n-i) 0))
 kz:uN w B [N] [bT,eK] [b1 l,p]
 nl:e'.length=i
 H6:B≤N
section
variable {w w':World} {B N:Nat} {bT eK:Value} {e':List Int} {l:List Nat} {p:List Int} {i n:Nat}
theorem lD.keep (h:lD w B N bT eK e' l p i n) (aa:Kept w w'):lD w' B N bT eK e' l p i n:=⟨h.nb.kept aa,h.kz.keep aa,h.nl,h.H6⟩
theorem lD.ol (h:lD w B N bT eK e' l p i n):cn w B bT (b1 l):=h.kz.own 0 _ _ rfl rfl
theorem lD.op (h:lD w B N bT eK e' l p i n):cn w B eK p:=h.kz.own 1 _ _ rfl rfl
theorem lD.put (h:lD w B N bT eK e' l p i n) (aE:i<n) (x:Int):lD (w.setCell ⟨N,i,none⟩ x) B N bT eK (e'++[x]) l p (i+1) n:=by
 refine⟨?_,h.kz.Mi (by simp) i _,by rw[List.length_append,h.nl];rfl,h.H6⟩;have I:=h.nb.aP i x;rw[EP,List.set_append_right _ _ (by rw[h.nl];exact Nat.le_refl _),h.nl,Nat.sub_self,show n-i=(n-(i+1))+1 by omega,List.replicate_succ,List.set_cons_zero]at I;rw[List.append_assoc];exact I
theorem lD.Od {yA:Value} {x:Nat} (h:lD w B N bT eK e' l p i n) (I:cn w' B yA (b1 l++[(x:Int)])) (U:w.grownBy w' bT.ownBlock) (ae:yA.ownBlock=bT.ownBlock∨yA.ownBlock=some w.heap.size):lD w' B N yA eK e' (l++[x]) p i n:=by
 have bO:=h.kz.far 0 _ rfl N (by simp);have:=h.kz.two (d:=0) rfl I (Two.uv (r:=N) U) (by simp) (ae.imp id fun e=>⟨_,e,Nat.le_refl _⟩);exact⟨(U.block N h.nb.lt (fun e=>bO e.symm)).trans h.nb,by rw[Rj];exact this,h.nl,h.H6⟩
theorem lD.Oe {L5:Value} {x:Int} (h:lD w B N bT eK e' l p i n) (I:cn w' B L5 (p++[x])) (U:w.grownBy w' eK.ownBlock) (ae:L5.ownBlock=eK.ownBlock∨L5.ownBlock=some w.heap.size):lD w' B N bT L5 e' l (p++[x]) i n:=by
 have bO:=h.kz.far 1 _ rfl N (by simp);have:=h.kz.two (d:=1) rfl I (Two.uv (r:=N) U) (by simp) (ae.imp id fun e=>⟨_,e,Nat.le_refl _⟩);exact⟨(U.block N h.nb.lt (fun e=>bO e.symm)).trans h.nb,this,h.nl,h.H6⟩
theorem lD.ah5 {y:Int} (h:lD w B N bT eK (e'++[y]) l p (i+1) n) (x:Int):lD (w.setCell ⟨N,i,none⟩ x) B N bT eK (e'++[x]) l p (i+1) n:=by
 have aq:e'.length=i:=by have:=h.nl;rw[List.length_append]at this;simpa using this
 refine⟨?_,h.kz.Mi (by simp) i _,by rw[List.length_append,aq];rfl,h.H6⟩;have I:=h.nb.aP i x;rw[EP,List.append_assoc,List.set_append_right _ _ (by rw[aq];exact Nat.le_refl _),aq,Nat.sub_self]at I;rw[List.append_assoc];exact I
theorem lD.ahf (h:lD w B N bT eK e' l p i n) {k:Nat} (aa:k<i):w.cell? ⟨N,k,none⟩=some (.int .i64 (e'[k]?.getD 0)):=by
 rw[h.nb.cell,xe (by rw[List.length_append,h.nl];omega)];unfold c4;rw[List.getElem?_append_left (by rw[h.nl];exact aa)]
end
def ah3 (l:List Nat) (p:List Int) (w:World) (e:Ending) (w':World):Prop:=∃bT eK,e= .returned (.tuple #[bT,eK])∧fC w' bT (b1 l)∧fC w' eK p∧Kept w w'
def Gu (r:bf) (e':List Int):Int:=if 0≤r.bD∧r.bD<e'.length then e'[r.bD.toNat]?.getD 0 else -1
theorem ah2 {kp:bf→Bool} {r:bf} {rs:List bf} {e':List Int} {l:List Nat} {p:List Int} (h:kp r=true):pb kp (r::rs) e' l p=pb kp rs (e'++[(l.length:Int)]) (l++[e'.length]) (p++[Gu r e']):=by
 rw[pb,if_pos h];rfl
theorem ah0 {kp:bf→Bool} {r:bf} {rs:List bf} {e':List Int} {l:List Nat} {p:List Int} (h:kp r=false):pb kp (r::rs) e' l p=pb kp rs (e'++[Gu r e']) l p:=by
 rw[pb,if_neg (by rw[h];simp)];rfl
theorem ah4 (bA:Value) (rs:List bf) (dy c9:Nat) (d dt:Int) (w:World) (nn:cH 9 mv w bA rs) (aA:rs.length≤1000) (aJ:dy<w.heap.size) (bp:c9<w.heap.size) (bN:w.cell? ⟨dy,0,none⟩=some (.int .i64 d)) (bJ:w.cell? ⟨c9,0,none⟩=some (.int .i64 dt)):
  Calls prog 102 #[bA,.func (.func 103) #[] #[.pointer (some ⟨dy,0,none⟩),.pointer (some ⟨c9,0,none⟩)]] w (ah3 (c8 (bV d dt) rs).1 (c8 (bV d dt) rs).2 w):=by
 obtain⟨ij,hS,hT,hU,hV⟩:=info_parts Tryz.rX;obtain⟨eC,rc,rfl,-,-,oA⟩:=nn;have lb:=hid oA;have Nj:=hid (fun (w1:World) (aa:Kept w w1) (ag src:ByteArray) (bK bD fa dH dB:Int) (BN CU:Option Addr) (yb gc fJ gx:Nat) (g v:List cz)=>aga ag src bK bD fa dH dB d dt BN CU yb gc fJ gx dy c9 g v w1 (bd aJ aa.size) (bd bp aa.size) (aa.ad aJ bN) (aa.ad bp bJ));obtain⟨LT,DB,Ea⟩:∃LT DB,c8 (bV d dt) rs=(LT,DB):=⟨_,_,rfl⟩;rw[Ea];have zf:=hid (show pb (bV d dt) (rs.drop 0) [] [] []=(LT,DB)from Ea);generalize bV d dt=kp at*;obtain⟨n,lo⟩:∃n,rs.length=n:=⟨_,rfl⟩;rw[lo]at aA lb⊢;have bk:=hid lo;have oz:(n:Int)≤1000:=by omega
 clear oA Ea lo aJ bp bN bJ;go_enter func102,ntmps102
 go_upto_region 3 with (at_make;refine wpList_make_full _ rfl _ _ 92 rfl w.heap.size 3 ij () 1 underlying92 hS hT hU _ _ _ _ n rfl rfl rfl rfl (by rw[hV];omega) (by unfold maxLen;omega) (Nat.le_refl _) ?_;intro w1 cR cd;have cp:=hid (Ly cR cd);clear cR cd)
 have A1:lD w1 w.heap.size w.heap.size aR aR [] [] [] 0 n:=⟨by rw[List.nil_append,Nat.sub_zero];exact cp.out.1,⟨rfl,fun d u l hu aq=>(by
  match d,hu,aq with
  |0,hu,aq=>cases hu;cases aq;exact World.ownsRow_nil _ _ _ _
  |1,hu,aq=>cases hu;cases aq;exact World.ownsRow_nil _ _ _ _),fun d eR u km _ hu _=>(by
  match d,hu with
  |0,hu=>cases hu;exact h8.LM _
  |1,hu=>cases hu;exact h8.LM _),fun d u hu x _=>(by
  match d,hu with
  |0,hu=>cases hu;intro h;cases h
  |1,hu=>cases hu;intro h;cases h),fun x af=>(by rw[List.mem_singleton]at af;subst af;exact cp.out.1.lt)⟩,rfl,Nat.le_refl _⟩
 have oQ:=hid (And.intro A1 cp.out.2);clear cp A1;go_upto_region 4 with fail
 go_loopw [6,7,17] (fun bT eK y wr=>∃(i:Nat) (e':List Int) (l:List Nat) (p:List Int),y= .int .i64 i∧i≤n∧lD wr w.heap.size w.heap.size bT eK e' l p i n∧l.length≤i∧p.length≤i∧pb kp (rs.drop i) e' l p=(LT,DB)∧Kept w wr) (fun _ _ y _=>n-(intOf y).toNat)
 case atStart=>exact⟨0,[],[],[],rfl,Nat.zero_le _,oQ.out.1,Nat.le_refl _,Nat.le_refl _,zf.out,oQ.out.2⟩
 case round=>
  obtain⟨i,e',l,p,rfl,de,hF,t',mF,aG,ab⟩:=hrel;by_cases aD:i<n
  ·obtain⟨fz,ro,rfl,dm,iW⟩:=lb.out (by omega);have fP:i<rs.length:=by have:=bk.out;omega
   have ai:rs[i]?=some (rs[i]'fP):=a8 _;obtain⟨⟨b5,-⟩,⟨aC,-⟩,⟨aM,-⟩,⟨a1,-⟩,⟨bN,-⟩,⟨bJ,-⟩,⟨nU,eQ,h4⟩,⟨n8,kv,mc⟩,⟨kx,-⟩⟩:=iW i _ ai;rw[List.drop_eq_getElem_cons fP]at aG;generalize rs[i]'fP=r at*;obtain⟨jg,gc,rfl,-⟩:=h4.1.at_;obtain⟨iS,gx,rfl,-⟩:=mc.1.at_;unfold ed at b5 aC aM a1 bN bJ eQ kv kx;have hJ:=ab.ad dm b5;have fc:=ab.ad dm aC;have cm:=ab.ad dm aM;have dx:=ab.ad dm a1;have qb:=ab.ad dm bN;have FE:=ab.ad dm bJ;have y6:=ab.ad dm eQ;have uM:=ab.ad dm kv;have oN:=ab.ad dm kx;have X1:=bd dm ab.size;have c6:(i:Int)<n:=by omega
   obtain⟨an,KS⟩:∃an,Gu r e'=an:=⟨_,rfl⟩;have qe:=hid (show∀w1,Kept w w1→Calls prog 103 #[.agg #[r.ag,r.bK,r.bD,r.fa,r.dH,r.dB,.slice jg r.g.length gc,.slice iS r.v.length gx,r.src],.pointer (some ⟨dy,0,none⟩),.pointer (some ⟨c9,0,none⟩)] w1 (fun e w'=>e= .returned (.bool (kp r))∧Kept w1 w')from fun w1 aa=>Nj.out w1 aa r.ag r.src r.bK r.bD r.fa r.dH r.dB jg iS r.g.length gc r.v.length gx r.g r.v);have hM:=hid (show kp r=true→pb kp (rs.drop (i+1)) (e'++[(l.length:Int)]) (l++[i]) (p++[an])=(LT,DB)from fun h=>by rw[←aG,ah2 h,KS,hF.nl]);have HNo:=hid (show kp r=false→pb kp (rs.drop (i+1)) (e'++[an]) l p=(LT,DB)from fun h=>by rw[←aG,ah0 h,KS]);have SX:=hid KS;have aV:=hid hF;have du:=hid ab;have e7:=hid (And.intro t' mF);clear b5 aC aM a1 bN bJ eQ kv kx h4 mc iW ai aG hF ab KS;go_upto_region 7 with fail
   generalize ar:wr.alloc _=e8 at*;obtain⟨bR,aT⟩:=Kept.az ar;clear ar;obtain⟨dR,bx⟩:=aT.p;have k':=hid (aV.out.keep bR);have la:=hid (du.out.trans bR);have dr:=hid aT;have alZ:=k'.out.nb.lt;clear hJ fc cm dx qb FE y6 uM oN aT bR;go_cut [30] (fun bv bt=>bv= .bool (decide (0≤r.bD∧r.bD<i))∧bt=e8)
   case first=>
    by_cases Ch:0≤r.bD
    ·by_cases ua:r.bD<i
     ·have av:=decide_eq_true (And.intro Ch ua);go_wp2_with fail
      go_meet
      case rel=>exact⟨by rw[av],rfl⟩
     ·have av:=decide_eq_false (fun h:0≤r.bD∧r.bD<i=>ua h.2);have Ld:(i:Int)≤r.bD:=by omega
      go_wp2_with fail
      go_meet
      case rel=>exact⟨by rw[av],rfl⟩
    ·have av:=decide_eq_false (fun h:0≤r.bD∧r.bD<i=>Ch h.1);have Ld:r.bD<0:=by omega
     go_wp2_with fail
     go_meet
     case rel=>exact⟨by rw[av],rfl⟩
   case rest=>
    obtain⟨rfl,rfl⟩:=hcut;go_upto_if 30 with fail
    go_cut [11] (fun c0 bt=>c0= .int .i64 an∧bt=wc)
    case first=>
     by_cases hp:0≤r.bD∧r.bD<i
     ·obtain⟨xl,ub⟩:∃xl:Nat,r.bD=xl:=⟨r.bD.toNat,by omega⟩;have hY:=k'.out.ahf (k:=xl) (by omega);have he:e'[xl]?.getD 0=an:=by
       rw[←SX.out];unfold Gu;rw[if_pos ⟨hp.1,by rw[aV.out.nl];exact hp.2⟩,ub,Int.toNat_natCast]
      rw[he]at hY;rw[decide_eq_true hp];rw[ub]at dR hp;have al2:(xl:Int)<n:=by omega
      clear hp;go_wp2_with fail
      go_meet
      case rel=>exact⟨rfl,rfl⟩
     ·have he:an= -1:=by
       rw[←SX.out];unfold Gu;rw[if_neg (fun h=>hp (by have:=h.2;rw[aV.out.nl]at this;exact⟨h.1,this⟩))]
      rw[decide_eq_false hp];clear hp;go_wp2_with fail
      go_meet
      case rel=>exact⟨by rw[he],rfl⟩
    case rest=>
     obtain⟨rfl,hww⟩:=hcut;subst hww;have en:=k'.out.nb.cell i;rw[xe (by rw[List.length_append,k'.out.nl,List.length_replicate];omega)]at en;have n1f:=k'.out.nb.frozen i;go_upto_region 10 with fail
     have SM:=k'.out.put aD an;have bU:=dr.out.far (p:=⟨w.heap.size,i,none⟩) (Nat.ne_of_gt aV.out.nb.lt) (.int .i64 an);have fe:=la.out.setCell (p:=⟨w.heap.size,i,none⟩) (Nat.le_refl _) (.int .i64 an);clear en n1f dR;generalize wc.setCell ⟨w.heap.size,i,none⟩ (.int .i64 an)=cw at*;obtain⟨fU,dz⟩:=bU.p;have Jf:=hid (qe.out cw fe);have pq:=hid (And.intro SM fe);clear SM bU fe
     cases Aa:kp r
     ·rw[Aa]at Jf;have qh:=hid (HNo.out Aa);clear Aa;go_wp2_with (go_at_call 103;refine Jf.out.mono ?_;rintro e eA ⟨rfl,cG⟩;have eO:=hid cG;clear cG)
      go_roundw
      case rel=>exact⟨i+1,_,_,_,by go_num,aD,pq.out.1.keep eO.out,by have:=e7.out.1;omega,by have:=e7.out.2;omega,qh.out,pq.out.2.trans eO.out⟩
      case measure=>simp[intOf];omega
     ·rw[Aa]at Jf;have qh:=hid (hM.out Aa);clear Aa;obtain⟨EZ,lc,hlv⟩:=il pq.out.1.ol;subst hlv;have alR:=(show l.length≤1000 by have:=e7.out.1;omega);have al1:=(show p.length≤1000 by have:=e7.out.2;omega);rw[mj];go_upto_region 11 with (go_at_call 103;refine Jf.out.mono ?_;rintro e eA ⟨rfl,cG⟩;have eO:=hid cG;clear cG)
      have CY:=pq.out.1.keep eO.out;have qQ:=CY.nb.cell i;rw[xe (by rw[List.length_append,CY.nl,List.length_replicate];omega)]at qQ;have n4f:=CY.nb.frozen i;have n4l:=CY.nb.lt;have hK:=hid (And.intro CY (pq.out.2.trans eO.out));clear CY fU;go_upto_region 12 with fail
      have SN:=hK.out.1.ah5 (l.length:Int);have uS:=hK.out.2.setCell (p:=⟨w.heap.size,i,none⟩) (Nat.le_refl _) (.int .i64 (l.length:Int));clear qQ n4f n4l;generalize eA.setCell ⟨w.heap.size,i,none⟩ (.int .i64 (l.length:Int))=cf at*;have kO:=hid (And.intro SN uS);clear SN uS;go_upto_region 13 with (at_builtin;refine wpList_append_own_at _ rfl (.tmp 48) (.tmp 50) 92 rfl w.heap.size 3 ij () 1 8 underlying92 hS hT hU hV rfl (by decide) _ (b1 l).length ((b1 l).map (.int .i64)) (by simp[Act.eval,mj]) (World.ownsRow.alloc kO.out.1.ol _) ⟨cf.heap.size,0,none⟩ 1 1 [.int .i64 i] rfl rfl (cell_one_new _ _ _) (nz i) (by rw[mj];unfold maxLen;omega) (by rw[mj];omega) (by have:=kO.out.2.size;simp;omega) ?_;intro v6 dV aO aN _ dA;have eN:=hid (And.intro ((kO.out.1.keep (Kept.alloc (aQ _) (.cells #[i] 3))).Od (r9 aO) aN dA) (kg (kO.out.2.alloc (.cells #[i] 3)) (World.ownsRow.alloc kO.out.1.ol _) (Nat.le_refl _) aN));clear aO aN dA)
      go_upto_region 14 with (at_builtin;refine wpList_append_own_at _ rfl (.tmp 52) (.tmp 54) 92 rfl w.heap.size 3 ij () 1 8 underlying92 hS hT hU hV rfl (by decide) _ p.length (p.map (.int .i64)) rfl (World.ownsRow.alloc eN.out.1.op _) ⟨dV.heap.size,0,none⟩ 1 1 [.int .i64 an] rfl rfl (cell_one_new _ _ _) (nz an) (by unfold maxLen;omega) (by omega) (by have:=eN.out.2.size;simp;omega) ?_;intro sb jT aO aN _ dA;have jh:=hid (And.intro ((eN.out.1.keep (Kept.alloc (aQ _) (.cells #[.int .i64 an] 3))).Oe (r9 aO) aN dA) (kg (eN.out.2.alloc (.cells #[.int .i64 an] 3)) (World.ownsRow.alloc eN.out.1.op _) (Nat.le_refl _) aN));clear aO aN dA)
      go_wp2_with fail
      go_roundw
      case rel=>exact⟨i+1,_,_,_,by go_num,aD,jh.out.1,by rw[List.length_append,List.length_singleton];have:=e7.out.1;omega,by rw[List.length_append,List.length_singleton];have:=e7.out.2;omega,qh.out,jh.out.2⟩
      case measure=>simp[intOf];omega
  ·obtain rfl:i=n:=by omega
   have c6:¬((i:Int)<i):=by omega
   rw[List.drop_eq_nil_of_le (by have:=bk.out;omega),pb]at aG;simp only[Prod.mk.injEq]at aG;obtain⟨rfl,rfl⟩:=aG;have aV:=hid (And.intro hF.ol.reads (And.intro hF.op.reads ab));clear hF ab;go_wp2_with fail
   exact bodyPost_ret (v:= .tuple #[u6,u7]) (by simp[results,results102,go_sem]) rfl ⟨_,_,rfl,aV.out.1,aV.out.2.1,aV.out.2.2⟩
def ajQ (l:List Nat) (p q:List Int) (w:World) (e:Ending) (w':World):Prop:=∃bT eK j',e= .returned (.tuple #[bT,eK,j'])∧fC w' bT (b1 l)∧fC w' eK p∧fC w' j' q∧Kept w w'
theorem ahS {rs:List bf} {l:List Nat} {j k:Nat} {r:bf} (h:l[j]?=some k) (aH:rs[k]?=some r):h6 rs (l.take (j+1))=h6 rs (l.take j)++[r.fa]:=by
 unfold h6;rw[List.take_add_one,h,List.map_append];simp[aH]
theorem ajP (v:Value) (x:bP) (d dt:Int) (w:World) (bj:iH w v x) (aA:x.rs.length≤1000):
  Calls prog 75 #[v,d,dt] w (ajQ (c8 (bV d dt) x.rs).1 (c8 (bV d dt) x.rs).2 (h6 x.rs (c8 (bV d dt) x.rs).1) w):=by
 obtain⟨ij,hS,hT,hU,hV⟩:=info_parts Tryz.rX;obtain⟨bo,b6,bA,rfl,bC,b',nn⟩:=bj;have Bk:=hid (fun (w1:World) (dy c9:Nat) (aa:Kept w w1)=>ah4 bA x.rs dy c9 d dt w1 (nn.kept mv.kept aa) aA);obtain⟨gN,gS,rfl,-⟩:=bC;obtain⟨fo,fS,rfl,-⟩:=b';obtain⟨eC,rc,rfl,-,-,oA⟩:=nn;have lb:=hid oA;have tw:=hid (fun k i h=>((xn (bV d dt) x.rs).uu k i h).1);have iQ:=hid (show (c8 (bV d dt) x.rs).1.length≤x.rs.length by
  rw[(xn (bV d dt) x.rs).oB];unfold h2;refine Nat.le_trans (List.length_filter_le _ _) ?_;rw[List.length_take];omega)
 generalize (c8 (bV d dt) x.rs).1=L at*;generalize (c8 (bV d dt) x.rs).2=P at*;generalize x.ins.length=s3 at*;generalize x.ds.length=c7 at*;generalize x.rs=rs at*;obtain⟨n,lo⟩:∃n,rs.length=n:=⟨_,rfl⟩;rw[lo]at aA lb iQ tw⊢;have bk:=hid lo;rw[lo]at Bk;clear oA lo;have oz:(n:Int)≤1000:=by omega
 go_enter func75,ntmps75
 go_upto_region 1 with fail
 generalize ar:((w.alloc _).alloc _).alloc _=W at*;obtain⟨aF,a_,aS,aT⟩:=Kept.b7 ar;clear ar;have dL:=a_.cell 4;have cA:=a_.lt;simp only[List.getElem?_toArray,List.getElem?_cons_zero,List.getElem?_cons_succ]at dL;have mY:=hid (Bk.out W (w.heap.size+1) (w.heap.size+1+1) aF aS.lt aT.lt (aS.cell 0) (aT.cell 0));go_upto_region 3 with (go_at_call 102;refine mY.out.mono ?_;rintro e w1 ⟨bT,eK,rfl,aO,aN,cK⟩;obtain⟨anp,lc,rfl,HD⟩:=fC.at_ aO;have bz:=hid (And.intro aO (And.intro aN (And.intro cK HD)));clear aO aN cK HD)
 rw[mj];have bU:=a_.kept bz.out.2.2.1;have bB:=aF.trans bz.out.2.2.1;have Bb:=hid bz.out.2.2.2;rw[mj]at Bb;have TM:=hid (And.intro bz.out.1 bz.out.2.1);clear Bk mY bz dL cA a_ aS aT;go_upto_region 4 with fail
 have alQ:=iQ.out;go_loopw [11,23] (fun a y wr=>∃j:Nat,y= .int .i64 j∧j≤L.length∧Kept w1 wr∧cn wr w1.heap.size a (h6 rs (L.take j))) (fun _ y _=>L.length-(intOf y).toNat)
 case atStart=>exact⟨0,rfl,Nat.zero_le _,aQ _,World.ownsRow_nil _ _ _ _⟩
 case round=>
  obtain⟨j,rfl,aB,ab,da⟩:=hrel;by_cases aD:j<L.length
  ·obtain⟨Aq,ei,rfl,sS,Ab⟩:=Bb.out (by omega);have ai:L[j]?=some L[j]:=a8 aD;have j8:=tw.out j _ ai;have b5:=Ab j _ (LH ai);obtain⟨fz,ro,rfl,dm,iW⟩:=lb.out (by omega);have ie:L[j]<rs.length:=by have:=bk.out;omega
   have gr:rs[L[j]]?=some rs[L[j]]:=a8 ie;obtain⟨-,-,-,⟨a1,-⟩,-⟩:=iW _ _ gr;have XW:=ahS ai gr;have mF:(h6 rs (L.take j)).length≤1000:=by unfold h6;rw[List.length_map,List.length_take];omega
   generalize rs[L[j]]=r at*;generalize L[j]=k at*;unfold ed at a1;have hJ:=ab.ad sS b5;have al:=bB.trans ab;have dx:=al.ad dm a1;have alP:=bd sS ab.size;have Ai:=bd dm al.size;have ec:=bU.kept ab;have jN:=ec.cell 4;have h5:=ec.lt;simp only[List.getElem?_toArray,List.getElem?_cons_zero,List.getElem?_cons_succ]at jN;have gu:(j:Int)<L.length:=by omega
   have jI:(k:Int)<n:=by omega
   have dM:=hid da;have du:=hid ab;have HPT:=hid XW;have n2:=ab.size;clear da ab XW Ab iW b5 a1 ai gr al ec;go_wp2_with (at_builtin;refine wpList_append_own_at _ rfl (.tmp 27) (.tmp 34) 92 rfl w1.heap.size 3 ij () 1 8 underlying92 hS hT hU hV rfl (by decide) _ (h6 rs (L.take j)).length ((h6 rs (L.take j)).map (.int .i64)) rfl (World.ownsRow.alloc dM.out _) ⟨wr.heap.size,0,none⟩ 1 1 [.int .i64 r.fa] rfl rfl (cell_one_new _ _ _) (nz r.fa) (by unfold maxLen;omega) (by omega) (by simp;omega) ?_;intro v6 dV aO aN _ dA;have eN:=hid (And.intro (r9 aO) aN);clear aO aN dA)
   have aV:=hid (And.intro (kg (du.out.alloc _) (World.ownsRow.alloc dM.out _) (Nat.le_refl _) eN.out.2) (show cn dV w1.heap.size v6 (h6 rs (L.take (j+1))) by rw[HPT.out];exact eN.out.1));go_roundw
   case rel=>exact⟨j+1,by go_num,aD,aV.out.1,aV.out.2⟩
   case measure=>simp[intOf];omega
  ·obtain rfl:j=L.length:=by omega
   have gu:¬((L.length:Int)<L.length):=by omega
   rw[List.take_length]at da;have aV:=hid (And.intro (TM.out.1.kept ab) (And.intro (TM.out.2.kept ab) (And.intro da.reads (bB.trans ab))));rw[mj]at aV;clear da ab;go_wp2_with fail
   go_ret3
   exact⟨_,_,_,rfl,aV.out.1,aV.out.2.1,aV.out.2.2.1,aV.out.2.2.2⟩
def UF (b:Bool):List Value:=[.bool b]
abbrev AV (w:World) (v:Value) (l:List Bool):Prop:=gV w UF 1 v l
theorem AV.at_ {w:World} {v:Value} {l:List Bool} (h:AV w v l):∃A cap,v= .slice A l.length cap∧(0<l.length→∃b off,A=some ⟨b,off,none⟩∧b<w.heap.size∧∀j x,l[j]?=some x→w.cell? ⟨b,off+j,none⟩=some (.bool x)):=by
 obtain⟨A,cap,ay,af⟩:=h;refine⟨A,cap,ay,fun hp=> ?_⟩;obtain⟨b,off,aK,J,ah⟩:=af hp;exact⟨b,off,aK,J,fun j x aB=>by have:=ah j x aB 0 (.bool x) rfl;rwa [Nat.mul_one,Nat.add_zero]at this⟩
def hF (l:List Bool) (i:Nat):Bool:=l[i]?.getD false
theorem ahH {par:List Int} {pri:Nat→Int} {apl:Nat→Bool} (hp:∀(i:Nat) (p:Int),par[i]?=some p→p<i) {i:Nat} (aE:i<par.length):
  fI par pri apl par.length i=if n5 (fI par pri apl par.length) (jn pri (fI par pri apl par.length) (hq par i))= -1∧apl i=true then (i:Int)else n5 (fI par pri apl par.length) (jn pri (fI par pri apl par.length) (hq par i)):=by
 rcases ahG par pri apl hp par.length i (by omega)with h|h
 ·rw[h,fI]
 ·omega
def ahE (l:List Int) (w:World) (e:Ending) (w':World):Prop:=∃u,e= .returned u∧fC w' u l∧Kept w w'
theorem QM {w:World} {g:Nat} {l:List Int} (h:ao w g 3 (rW l)):fC w (.slice (some ⟨g,0,none⟩) l.length l.length) l:=by
 refine⟨_,_,rfl,fun _=>⟨g,0,rfl,h.lt,fun j x aB i u aE=> ?_⟩⟩;have Hy:=(b8 aB).1;match i,aE with
 |0,aE=>
  cases aE;rw[h.cell,Nat.zero_add,Nat.mul_one,Nat.add_zero,xe Hy];unfold c4;rw[aB];rfl
theorem VM (l:List Int):c4 l=fx l:=rfl
theorem ahI (eK j' c0:Value) (par pri:List Int) (apl:List Bool) (w:World) (dJ:fC w eK par) (cJ:fC w j' pri) (aK:AV w c0 apl) (aq:par.length≤1000) (au:pri.length=par.length) (aZ:apl.length=par.length) (hp:∀(i:Nat) (p:Int),par[i]?=some p→p<i):
  Calls prog 106 #[eK,j',c0] w (ahE ((List.range par.length).map (fI par (fx pri) (hF apl) par.length)) w):=by
 obtain⟨ij,hS,hT,hU,hV⟩:=info_parts Tryz.rX;have TI:=hid (fun (w1:World) (fk:Value) (o:List Int) (p:Int) (aa:Kept w w1) (aL:o.length=par.length) (rP:fC w1 fk o)=>ZN (.agg #[eK,j',fk]) par pri o p w1 ⟨eK,j',fk,rfl,dJ.kept aa,cJ.kept aa,rP⟩ aq au aL);obtain⟨rn,p8,rfl,-⟩:=dJ.at_;obtain⟨pz,kk,rfl,-⟩:=cJ.at_;obtain⟨MN,ac,rfl,WU⟩:=aK.at_;have SZ:=hid (fun i (aE:i<par.length)=>by
  obtain⟨b,off,I,U,ae⟩:=WU (by omega);exact (⟨b,off,I,U,ae i _ (by unfold hF;rw[a8 (by omega)];rfl)⟩:∃b off,MN=some ⟨b,off,none⟩∧b<w.heap.size∧w.cell? ⟨b,off+i,none⟩=some (.bool (hF apl i))))
 have xM:=hid (fun i (aE:i<par.length)=>ahH (pri:=fx pri) (apl:=hF apl) hp aE);have M6:=hid (fun (p:Int) c (h:c∈hq par p)=>(vm.1 h:par[c]?=some p));have re:=hid hp;rw[au,aZ]at*;obtain⟨n,aA⟩:∃n,par.length=n:=⟨_,rfl⟩;rw[aA]at aq TI SZ xM⊢;have bk:=hid aA;clear aA WU dJ cJ aK au aZ hp;generalize fx pri=j6 at*;generalize hF apl=VD at*;generalize fI par j6 VD n=os at*;have oz:(n:Int)≤1000:=by omega
 go_enter func106,ntmps106
 go_upto_region 2 with (at_make;refine wpList_make_full _ rfl _ _ 92 rfl w.heap.size 3 ij () 1 underlying92 hS hT hU _ _ _ _ n rfl rfl rfl rfl (by rw[hV];omega) (by unfold maxLen;omega) (Nat.le_refl _) ?_;intro w1 cR cd;have cp:=hid (Ly cR cd);clear cR cd)
 have a_:=cp.out.1.alloc (.cells #[.slice rn n p8,.slice pz n kk,.slice (some ⟨w.heap.size,0,none⟩) n n] 223);have va:=ao.new w1 223 #[.slice rn n p8,.slice pz n kk,.slice (some ⟨w.heap.size,0,none⟩) n n];have aF:Kept w (w1.alloc (.cells #[.slice rn n p8,.slice pz n kk,.slice (some ⟨w.heap.size,0,none⟩) n n] 223)):=cp.out.2.alloc _;have hGS:w.heap.size<w1.heap.size:=cp.out.1.lt;clear cp;generalize w1.alloc (.cells #[.slice rn n p8,.slice pz n kk,.slice (some ⟨w.heap.size,0,none⟩) n n] 223)=W at*;go_upto_region 3 with fail
 generalize w1.heap.size=xV at*;have fM:=hid hGS;go_loopw [8] (fun y wr=>∃(i:Int) (o:List Int),y= .int .i64 i∧ -1≤i∧i<n∧ao wr w.heap.size 3 (rW o)∧ao wr xV 223 #[.slice rn n p8,.slice pz n kk,.slice (some ⟨w.heap.size,0,none⟩) n n]∧o.length=n∧(∀c:Nat,i<c→c<n→fx o c=os c)∧Kept w wr) (fun y _=>(intOf y+1).toNat)
 case atStart=>exact⟨(n:Int)-1,_,rfl,by omega,by omega,a_,va,List.length_replicate ..,fun c I U=>by omega,aF⟩
 case round=>
  obtain⟨i,o,rfl,Hv,Xr,aU,bj,nt,HK,ab⟩:=hrel;by_cases aj:0≤i
  ·obtain⟨k,rfl⟩:∃k:Nat,i=k:=⟨i.toNat,by omega⟩;have j8:k<n:=by omega
   obtain⟨Z,jH⟩:∃Z,n5 (fx o) (jn j6 (fx o) (hq par (k:Int)))=Z:=⟨_,rfl⟩;have pr:=hid (fun x:al wr=>(by
    have I:=TI.out x.W _ o (k:Int) (ab.trans x.h) nt (QM (aU.kept x.h));rw[jH,nt]at I;exact I:Calls prog 107 #[.agg #[.slice rn n p8,.slice pz n kk,.slice (some ⟨w.heap.size,0,none⟩) n n],k] x.W (MM Z x.W)))
   have WN:Z=n5 os (jn j6 os (hq par (k:Int))):=by
    rw[←jH];refine aaA fun c ah=> ?_;have I:=M6.out _ c ah;have U:=re.out c _ I;have ae:=(b8 I).1;exact HK c (by omega) (by have:=bk.out;omega)
   have iF:=hid (xM.out k j8);rw[←WN]at iF;have tv:=hid (show∀V,os k=V→∀c:Nat,(k:Int)-1<c→c<n→fx (o.set k V) c=os c from fun V dZ c I U=>by
    by_cases e:k=c
    ·subst e;rw[←VM,D3 (by rw[nt];exact j8)];exact dZ.symm
    ·rw[←VM,GU e];exact HK c (by omega) U)
   have jw:=al.cell bj.lt (bj.cell 0);have s1:=al.cell bj.lt (bj.cell 1);have s2:=al.cell bj.lt (bj.cell 2);have pc:=bj.lt
   try simp only[List.getElem?_toArray,List.getElem?_cons_zero,List.getElem?_cons_succ]at jw s1 s2
   have cg:=hid aU;have cD:=hid bj;have du:=hid ab;have qi:=hid nt;have jI:(k:Int)<n:=by omega
   obtain⟨rv,anE,rfl,lk,mC⟩:=SZ.out k j8;clear aU bj ab nt jH WN HK;go_upto_region 5 with fail
   refine v8 7 (by kernel_rfl) (by kernel_rfl) ?_;simp only[List.take_succ_cons,List.take_zero,List.drop_succ_cons,List.drop_zero]
   repeat (go_big_quiet_step ((go_at_call 107;exact al.call (pr.out _))))
   refine wpQuiet_nil ?_;rintro cf ⟨⟨bt,cj⟩,bb⟩;obtain rfl:cf=bt:=bb;have fB:=cg.out.kept cj;have Ua:=cD.out.kept cj;have uS:=du.out.trans cj;have g5:=fB.cell k;rw[xe (by rw[qi.out];exact j8)]at g5;have ox:=fB.lt;have anL:=fB.frozen k;clear jw s1 s2 cj;go_upto_region 6 with fail
   have e0:=fB.aP k (.int .i64 Z);rw[EP]at e0;have JH:=Ua.far (p:=⟨w.heap.size,k,none⟩) (Nat.ne_of_gt fM.out) (.int .i64 Z);have su:=uS.setCell (p:=⟨w.heap.size,k,none⟩) (Nat.le_refl _) (.int .i64 Z);clear fB Ua uS g5 ox anL;generalize cf.setCell ⟨w.heap.size,k,none⟩ (.int .i64 Z)=dV at*;have g6:=e0.cell k;rw[xe (by rw[List.length_set,qi.out];exact j8),D3 (by rw[qi.out];exact j8)]at g6;have gl6:=e0.lt;have gf6:=e0.frozen k;have t2:=JH.cell 2;have Mt:=JH.lt
   try simp only[List.getElem?_toArray,List.getElem?_cons_zero,List.getElem?_cons_succ]at t2
   have jE:=su.ad lk mC;have abl:=bd lk su.size;have eN:=hid (And.intro e0 (And.intro JH su));clear e0 JH su mC;by_cases ck:Z= -1
   ·cases B6:VD k
    ·rw[B6]at jE;have eU:=hid (show os k=Z by rw[iF.out,if_neg (by rw[B6];simp)]);subst ck;go_wp2_with fail
     go_roundw
     case rel=>exact⟨(k:Int)-1,_,by go_num,by omega,by omega,eN.out.1,eN.out.2.1,by rw[List.length_set];exact qi.out,tv.out _ eU.out,eN.out.2.2⟩
     case measure=>simp[intOf]<;>omega
    ·rw[B6]at jE;have eU:=hid (show os k=(k:Int) by rw[iF.out,if_pos ⟨ck,B6⟩]);subst ck;go_wp2_with fail
     have lW:=eN.out.1.aP k k;rw[EP,List.set_set]at lW;have FI:=hid (And.intro lW (And.intro (eN.out.2.1.far (p:=⟨w.heap.size,k,none⟩) (Nat.ne_of_gt fM.out) k) (eN.out.2.2.setCell (p:=⟨w.heap.size,k,none⟩) (Nat.le_refl _) k)));clear lW;go_roundw
     case rel=>exact⟨(k:Int)-1,_,by go_num,by omega,by omega,FI.out.1,FI.out.2.1,by rw[List.length_set];exact qi.out,tv.out _ eU.out,FI.out.2.2⟩
     case measure=>simp[intOf]<;>omega
   ·have eU:=hid (show os k=Z by rw[iF.out,if_neg (fun h=>ck h.1)]);go_wp2_with fail
    go_roundw
    case rel=>exact⟨(k:Int)-1,_,by go_num,by omega,by omega,eN.out.1,eN.out.2.1,by rw[List.length_set];exact qi.out,tv.out _ eU.out,eN.out.2.2⟩
    case measure=>simp[intOf]<;>omega
  ·have hi3:i= -1:=by omega
   subst hi3;have s2:=bj.cell 2;have pc:=bj.lt;simp only[List.getElem?_toArray,List.getElem?_cons_zero,List.getElem?_cons_succ]at s2;have aV:=hid (show (List.range n).map os=o by
    apply List.ext_getElem?;intro c;by_cases ah:c<n
    ·rw[List.getElem?_map,List.getElem?_range ah,wT (by rw[nt];exact ah),HK c (by omega) ah];rfl
    ·rw[List.getElem?_eq_none (by simp;omega),List.getElem?_eq_none (by omega)])
   have dn:=hid (QM aU);rw[nt]at dn;have du:=hid ab;clear aU bj ab HK nt;go_wp2_with fail
   go_ret;exact⟨_,rfl,by rw[aV.out];exact dn.out,du.out⟩
theorem aiS (eK j' c0:Value) (par pri:List Int) (apl:List Bool) (w:World) (dJ:fC w eK par) (cJ:fC w j' pri) (aK:AV w c0 apl) (aq:par.length≤1000) (au:pri.length≤1000):
  Calls prog 76 #[eK,j',c0] w (MM (kK par pri apl) w):=by
 have eU:=hid (aiu eK j' par pri w dJ cJ aq au);have dM:=hid (fun (w1:World) (aa:Kept w w1) (au:pri.length=par.length) (aZ:apl.length=par.length) (hp:∀(i:Nat) (p:Int),par[i]?=some p→p<i)=>ahI eK j' c0 par pri apl w1 (dJ.kept aa) (cJ.kept aa) (aK.kept aa) aq au aZ hp);have bI:=hid (fun (w1:World) (fk:Value) (o:List Int) (aa:Kept w w1) (au:pri.length=par.length) (aL:o.length=par.length) (rP:fC w1 fk o)=>ZN (.agg #[eK,j',fk]) par pri o (-1) w1 ⟨eK,j',fk,rfl,dJ.kept aa,cJ.kept aa,rP⟩ aq au aL);obtain⟨rn,p8,rfl,-⟩:=dJ.at_;obtain⟨pz,kk,rfl,-⟩:=cJ.at_;obtain⟨MN,ac,rfl,-⟩:=aK.at_;have C7:=hid aK;clear dJ cJ aK
 cases uf:nD par pri
 ·have aI:=hid (show kK par pri apl= -1 by unfold kK;rw[if_neg (by rw[uf];simp)]);rw[uf]at eU;generalize kK par pri apl=T at*;generalize par.length=n at*;generalize pri.length=m at*;generalize apl.length=k at*;clear uf dM bI C7;go_enter func76,ntmps76
  go_upto_region 2 with (go_at_call 105;refine eU.out.mono ?_;rintro e w1 ⟨c,rfl,-,ah,aa⟩;have cx:=ah rfl;have fE:(c !=0)=true:=(by simpa using cx);clear ah;have du:=hid aa;clear aa)
  go_wp2_with fail
  go_ret;exact⟨by rw[aI.out];rfl,du.out⟩
 ·by_cases js:apl.length=par.length
  case neg=>
   have aI:=hid (show kK par pri apl= -1 by unfold kK;rw[if_neg (fun h=>js h.2)]);rw[uf]at eU;generalize kK par pri apl=T at*;generalize par.length=n at*;generalize pri.length=m at*;generalize apl.length=k at*;have j8:¬(k:Int)=n:=by omega
   have P':((k:Int) !=n)=true:=by simp;omega
   clear uf dM bI C7;go_enter func76,ntmps76
   go_upto_region 2 with (go_at_call 105;refine eU.out.mono ?_;rintro e w1 ⟨c,rfl,ah,-,aa⟩;obtain rfl:c=0:=ah rfl;have du:=hid aa;clear aa ah)
   go_wp2_with fail
   go_ret;exact⟨by rw[aI.out];rfl,du.out⟩
  case pos=>
   have mF:pri.length=par.length:=by
    unfold nD at uf;simp only[Bool.and_eq_true,decide_eq_true_eq]at uf;exact uf.1.symm
   have rL:∀(i:Nat) (p:Int),par[i]?=some p→p<i:=fun i p h=>(((II mF).1 uf).2 i p h).2.1;have tv:=hid (fun w1 aa=>dM.out w1 aa mF js rL);have q9:=hid (fun (w1:World) (fk:Value) (aa:Kept w w1) (rP:fC w1 fk ((List.range par.length).map (fI par (fx pri) (hF apl) par.length)))=>(by
    have I:=bI.out w1 fk _ aa mF (by rw[List.length_map,List.length_range]) rP;have U:n5 (fx ((List.range par.length).map (fI par (fx pri) (hF apl) par.length))) (jn (fx pri) (fx ((List.range par.length).map (fI par (fx pri) (hF apl) par.length))) (hq par (-1)))=kK par pri apl:=by
     unfold kK;rw[if_pos ⟨uf,js⟩];unfold Fh;refine aaA fun c ah=> ?_;have fE:=OA ah;unfold fx;rw[List.getElem?_map,List.getElem?_range fE];rfl
    rw[U]at I;exact I:Calls prog 107 #[.agg #[.slice rn par.length p8,.slice pz pri.length kk,fk],.int .i64 (-1)] w1 (MM (kK par pri apl) w1)))
   rw[uf]at eU;generalize kK par pri apl=T at*;generalize (List.range par.length).map (fI par (fx pri) (hF apl) par.length)=oS at*;rw[mF]at eU q9;rw[mF,js]at tv⊢;clear uf dM bI C7 rL mF js au;generalize par.length=n at*;go_enter func76,ntmps76
   go_upto_region 3 with (go_at_call 105;refine eU.out.mono ?_;rintro e w1 ⟨c,rfl,ah,-,aa⟩;obtain rfl:c=0:=ah rfl;have du:=hid aa;clear aa ah)
   have Nx:=hid (tv.out w1 du.out);go_wp2_with (first|(go_at_call 106;refine Nx.out.mono ?_;rintro e w2 ⟨u,rfl,aO,aN⟩;have bz:=hid (q9.out w2 u (du.out.trans aN) aO);obtain⟨j1,hj,rfl,-⟩:=fC.at_ aO;have la:=hid (du.out.trans aN);clear aO aN)|(go_at_call 107;refine bz.out.mono ?_;rintro e cw ⟨rfl,aO⟩;have gM:=hid aO;clear aO))
   go_ret;exact⟨rfl,la.out.trans gM.out⟩
end Go.Proofs.YtobpgndkciofhaaGreatDoor
