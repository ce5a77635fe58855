import Derived.Test.YtobpgndkciofhaaGreatDoorE
import Derived.Test.YtobpgndkciofhaaGreatDoorS
import Derived.Deep.AppendSrc
import Derived.Deep.Upon
set_option linter.all false
namespace Go.Proofs.YtobpgndkciofhaaGreatDoor
open Go.RowKit Go.Proofs.Tryz
open Go.Lib (hid)
set_option maxRecDepth 100000
set_option maxHeartbeats 8000000
def sd (l:List bg):Array Value:=(l.flatMap AQ).toArray
theorem abf (l:List bg):(l.flatMap AQ).length=l.length*3:=by
 induction l with
 |nil=>rfl
 |cons a r bH=>rw[List.flatMap_cons,List.length_append,bH,IL,List.length_cons];omega
theorem aiT (P S:List Value) (a b c x y z:Value):(((P++a::b::c::S).toArray.setIfInBounds P.length x).setIfInBounds (P.length+1) y).setIfInBounds (P.length+2) z=(P++x::y::z::S).toArray:=by
 simp[List.setIfInBounds_toArray]
theorem abg (P S:List bg) (a x:bg):(((sd (P++a::S)).setIfInBounds (P.length*3) x.k).setIfInBounds (P.length*3+1) x.e).setIfInBounds (P.length*3+2) x.n=sd (P++x::S):=by
 unfold sd;rw[List.flatMap_append,List.flatMap_append,List.flatMap_cons,List.flatMap_cons,←abf];exact aiT _ _ _ _ _ _ _ _
theorem akI (n:Nat):(madeCells #[Value.int .i64 0,Value.int .i64 0,Value.int .i64 0] (n*3)).toList=(List.replicate n v0).flatMap AQ:=by
 have h:∀n,(List.replicate n v0).flatMap AQ=List.replicate (n*3) (Value.int .i64 0):=by
  intro n;induction n with
  |zero=>rfl
  |succ n bH=>rw[List.replicate_succ,List.flatMap_cons,bH,Nat.succ_mul];rfl
 rw[h];apply List.ext_getElem?;intro j;by_cases aB:j<n*3
 ·have:j% 3=0∨j% 3=1∨j% 3=2:=by omega
  rcases this with h|h|h<;>simp[madeCells,aB,h]
 ·simp[madeCells,aB]
theorem J2 {w:World} {B:Nat} {e:TypeId} {g n cap k m:Nat} {l:List Value} (h:w.ownsRow B e k (.slice (some ⟨g,0,none⟩) n cap) m l) (aq:l.length=cap*k):ao w g e l.toArray:=by
 rcases h.2 with⟨ay,_⟩|⟨hR,oq,cur,ay,_,ai,_,_,ae,aJ⟩
 ·cases ay
 ·simp only[Value.slice.injEq,Option.some.injEq,Addr.mk.injEq]at ay;obtain⟨⟨rfl,_⟩,_,rfl⟩:=ay;have:cur.toList=l:=by
   have bp:cur.toList.length=cap*k:=by rw[Array.length_toList,ae]
   have eJ:(cur.toList.take (m*k)).length=cap*k:=by rw[aJ,aq]
   rw[←aJ,List.take_of_length_le (by rw[List.length_take]at eJ;omega)]
  unfold ao;rw[←this,Array.toArray_toList];exact ai
theorem Zk {w w1:World} {t:TypeId} {n:Nat} (cR:w1.ownsRow w.heap.size t 3 (.slice (some ⟨w.heap.size,0,none⟩) n n) n (madeCells (Value.agg #[(),(),()]).cells (n*3)).toList) (cd:w.grownBy w1 none):
  ao w1 w.heap.size t (sd (List.replicate n v0))∧Kept w w1:=by
 rw[show (Value.agg #[(),(),()]).cells=#[Value.int .i64 0,Value.int .i64 0,Value.int .i64 0]from by simp[Value.cells],akI]at cR;exact⟨J2 cR (by rw[abf,List.length_replicate]),⟨cd.os,cd.tape,cd.output,cd.size,fun b J=>cd.block b J (by simp)⟩⟩
theorem MC {w:World} {g:Nat} {t:TypeId} {l:List bg} (h:ao w g t (sd l)):ff w (.slice (some ⟨g,0,none⟩) l.length l.length) l:=
 ⟨_,_,rfl,fun _=>⟨g,0,rfl,h.lt,fun j x aB i u hu=>by
  rw[h.cell];unfold sd;rw[List.getElem?_toArray,Nat.zero_add];exact GS IL l j x aB i u hu⟩⟩
theorem Tryz.YU:(prog.info? 44).map (fun i=>(i.zero,i.size,i.bytes))=some (some (.agg #[(),(),()]),3,24):=by kernel_rfl
theorem Uz (f:Int→bg×Int) (i:Int) (r:List Int) (acc:List bg):rz f (i::r) acc=if (f i).2≠0 then ([],(f i).2)else rz f r (acc++[(f i).1]):=rfl
theorem acH {f:Int→bg×Int}:∀(l:List Int) (acc args:List bg),rz f l acc=(args,0)→args.length=acc.length+l.length:=by
 intro l;induction l with
 |nil=>intro acc args h;cases h;rfl
 |cons a r bH=>
  intro acc args h;rw[Uz]at h;split at h
  ·rename_i ah;exact absurd (Prod.mk.inj h).2 ah
  ·rw[bH _ _ h,List.length_append,List.length_cons,List.length_cons,List.length_nil];omega
abbrev MO (w:World) (v:Value) (bF:List (List Int)):Prop:=cH 1 (qn fC) w v bF
def iw (s:List Bool):Array Value:=(s.map Value.bool).toArray
theorem qu {s:List Bool} {i:Nat} {b:Bool} (h:s[i]?=some b):(iw s)[i]?=some (.bool b):=by simp[iw,h]
theorem x1 (s:List Bool) (i:Nat) (b:Bool):(iw s).setIfInBounds i (.bool b)=iw (s.set i b):=by
 unfold iw;rw[List.setIfInBounds_toArray,List.map_set]
theorem Tryz.Ls:(prog.info? 4).map (fun i=>(i.zero,i.size,i.bytes))=some (some (.bool false),1,1):=by kernel_rfl
theorem Ia {w w1:World} {t:TypeId} {n:Nat} (cR:w1.ownsRow w.heap.size t 1 (.slice (some ⟨w.heap.size,0,none⟩) n n) n (madeCells (Value.bool false).cells (n*1)).toList) (cd:w.grownBy w1 none):
  ao w1 w.heap.size t (iw (List.replicate n false))∧Kept w w1:=by
 have e:=toList_madeCells_one (Value.bool false) (n*1);rw[show (Value.bool false).cells=#[Value.bool false]from rfl,e]at cR;refine⟨?_,⟨cd.os,cd.tape,cd.output,cd.size,fun b J=>cd.block b J (by simp)⟩⟩;have h:=J2 cR (by simp);unfold iw;rwa [Nat.mul_one,←List.map_replicate]at h
theorem aag (v:Value) (bF:List (List Int)) (n:Nat) (d0:Int) (w:World) (aK:MO w v bF) (aA:bF.length=n) (aw:∀d:Int,gU n (bF[d.toNat]?.getD [])) (av:0≤d0∧d0<n) (ke:n≤1000) (bL:∀l∈bF,l.length≤1000000):
  Calls prog 51 #[v,d0] w (p6 w.heap.size (qY bF n d0) w):=by
 obtain⟨A,cap,rfl,-,VZ,Pl⟩:=aK;rw[aA]at VZ Pl⊢;obtain⟨T,bl⟩:∃T,T=wM bF (2*n+2) (List.replicate n false) [d0]:=⟨_,rfl⟩;have ch:=hid (show wM bF (2*n+2) (List.replicate n false) [d0]=T from bl.symm);obtain⟨R,iU⟩:∃R,R=qY bF n d0:=⟨_,rfl⟩;have nJ:Hid (((List.range n).filter fun i:Nat=>dG T (i:Int)).map (fun i:Nat=>(i:Int))=R):=hid (by rw[iU,bl];rfl);rw[←iU];have bk:=hid aA;have aI:=hid aw;have e7:=hid bL;have HAA:=hid Pl;obtain⟨i0,aE,fy,cb,eu⟩:=info_parts Tryz.Ls;obtain⟨ij,hS,hT,hU,hV⟩:=info_parts Tryz.rX;obtain⟨ll,gB⟩:=av;have oz:(n:Int)≤1000:=by omega
 unfold p6;clear iU bl aA aw Pl VZ bL;go_enter func51,ntmps51
 go_wp2_with (at_make;refine wpList_make_full _ rfl _ _ 128 rfl w.heap.size 4 i0 (.bool false) 1 underlying128 aE fy cb _ _ _ _ n rfl rfl rfl rfl (by rw[eu];omega) (by unfold maxLen;omega) (Nat.le_refl _) ?_;intro w1 cR cd)
 obtain⟨aU,rK⟩:=Ia cR cd;clear cR cd;go_upto_region 3 with fail
 have cJ:lH (w1.alloc (.cells #[d0] 3)) w.heap.size (.slice (some ⟨w1.heap.size,0,none⟩) 1 1) [d0]:=⟨w1.heap.size,0,1,_,rfl,rK.size,ao.new w1 3 #[d0],Nat.le_refl _,by unfold Go.maxLen;omega,by simp,fun j x aB=>by cases j with|zero=>cases aB;rfl|succ j=>cases aB⟩;have BQ:=aU.alloc (.cells #[d0] 3);have yf:=rK.alloc (.cells #[d0] 3);have ae8:w.heap.size<w1.heap.size:=aU.lt;have au:(Value.slice (some ⟨w1.heap.size,0,none⟩) 1 1).ownBlock≠some w.heap.size:=by intro h;have:=Option.some.inj h;simp at this;omega
 clear aU rK;go_loopg [6] (2*n+2) (fun k y wr=>∃s q,lH wr w.heap.size y q∧y.ownBlock≠some w.heap.size∧ao wr w.heap.size 4 (iw s)∧s.length=n∧gU n q∧Kept w wr∧2*ot s+q.length<k∧k≤2*n+2∧wM bF k s q=T)
 case atStart=>exact⟨_,_,cJ,au,BQ,List.length_replicate ..,fun e he=>by rw[List.mem_singleton]at he;subst he;exact⟨ll,gB⟩,yf,by unfold ot;rw[List.countP_replicate];simp,Nat.le_refl _,ch.out⟩
 case round=>
  obtain⟨s,q,cJ,Lh,aU,ax,Li,ab,hm,iI,aG⟩:=hrel;clear ae8 au BQ yf;obtain⟨F,rfl⟩:∃F,gk=F+1:=⟨gk-1,by omega⟩;obtain⟨AG,r7,kk,cur,rfl,XX,qL,jJ,jK,ED,nu⟩:=cJ;match q with
  |[]=>
   rw[wM]at aG;have cD:=hid aG;have du:=hid ab;have cg:=hid aU;clear aG ab aU qL Li nu hm Lh;generalize wr=W0 at*;go_wp2_with fail
   go_loopw [10,50] (fun a y xw=>∃i:Nat,y= .int .i64 i∧i≤n∧Kept W0 xw∧cn xw W0.heap.size a (((List.range i).filter fun k:Nat=>dG s (k:Int)).map fun k:Nat=>(k:Int))) (fun _ y _=>n-(intOf y).toNat)
   case atStart=>exact⟨0,rfl,Nat.zero_le _,aQ _,World.ownsRow_nil _ _ _ _⟩
   case round=>
    obtain⟨i,rfl,de,hD,da⟩:=hrel;by_cases aD:i<n
    ·have fs:s[i]?=some (s[i]'(by omega)):=a8 _;have iA:dG s (i:Int)=s[i]'(by omega):=by unfold dG;rw[Int.toNat_natCast,fs];rfl
     have ib:=cg.out.kept hD;have qw:=ib.cell i;rw[qu fs]at qw;have kV:=ib.lt;have c6:(i:Int)<n:=by omega
     have mw:((List.range (i+1)).filter fun k:Nat=>dG s (k:Int)).map (fun k:Nat=>(k:Int))=((List.range i).filter fun k:Nat=>dG s (k:Int)).map (fun k:Nat=>(k:Int))++(if dG s (i:Int)then [(i:Int)]else []):=by
      rw[List.range_succ,List.filter_append,List.map_append];congr 1
      cases hp:dG s (i:Int)<;>simp[hp]
     have L:(((List.range i).filter fun k:Nat=>dG s (k:Int)).map fun k:Nat=>(k:Int)).length≤i:=by
      rw[List.length_map];exact Nat.le_trans (List.length_filter_le _ _) (by rw[List.length_range];exact Nat.le_refl _)
     rw[iA]at mw;have dM:=hid da;have gM:=hid hD;have jA:=hid mw;clear da hD mw ib iA;generalize s[i]'(by omega)=lg at*;have fM:=hid fs;clear fs
     cases lg
     ·go_wp2_with fail
      go_roundw
      case rel=>exact⟨i+1,rfl,aD,gM.out,by have h:=jA.out;simp only[Bool.false_eq_true,if_false,List.append_nil]at h;rw[h];exact dM.out⟩
      case measure=>simp[intOf];omega
     ·go_wp2_with (at_builtin;refine wpList_append_own_at _ rfl (.tmp 56) (.tmp 58) 92 rfl W0.heap.size 3 ij () 1 8 underlying92 hS hT hU hV rfl (by decide) _ (((List.range i).filter fun k:Nat=>dG s (k:Int)).map fun k:Nat=>(k:Int)).length ((((List.range i).filter fun k:Nat=>dG s (k:Int)).map fun k:Nat=>(k:Int)).map (.int .i64)) rfl (World.ownsRow.alloc dM.out _) ⟨wr.heap.size,0,none⟩ 1 1 [.int .i64 i] rfl rfl (cell_one_new _ _ _) (nz i) (by unfold maxLen;omega) (by omega) (by have:=gM.out.size;simp;omega) ?_;intro v' cf hy cd _ eG;have dW:=hid (And.intro hy (And.intro cd eG));clear hy cd eG)
      obtain⟨I,U,bp⟩:=dW.out;go_roundw
      case rel=>
       have ig:=And.intro (kg (gM.out.alloc _) (World.ownsRow.alloc dM.out _) (Nat.le_refl _) U) (show cn cf W0.heap.size v' (((List.range (i+1)).filter fun k:Nat=>dG s (k:Int)).map fun k:Nat=>(k:Int)) by have h:=jA.out;simp only[if_true]at h;rw[h];exact r9 I)
       first
        |exact⟨i+1,rfl,aD,ig⟩
        |exact⟨_,_,⟨i+1,rfl,aD,ig⟩,rfl,rfl⟩
        |exact⟨_,_,_,⟨i+1,rfl,aD,ig⟩,rfl,rfl,rfl⟩
        |exact⟨_,_,_,_,⟨i+1,rfl,aD,ig⟩,rfl,rfl,rfl,rfl⟩
      case measure=>simp[intOf];omega
    ·obtain rfl:i=n:=by omega
     have c6:¬((i:Int)<i):=by omega
     have dM:=hid da;have gM:=hid hD;clear da hD;go_wp2_with fail
     go_ret;exact⟨_,rfl,by rw[←nJ.out,←cD.out];exact cn.low dM.out du.out.size,du.out.trans gM.out⟩
  |d::q=>
   obtain⟨l8,PW⟩:=Li d (List.mem_cons_self ..);have b5:wr.cell? ⟨AG,r7,none⟩=some (.int .i64 d):=by rw[qL.cell];exact nu 0 d rfl
   obtain⟨dj,rfl⟩:∃dj:Nat,d=dj:=⟨d.toNat,by omega⟩;obtain⟨rv,anE,rfl,lk,mC⟩:=HAA.out (by omega);have B5:bF[dj]?=some (bF[dj]'(by have:=bk.out;omega)):=a8 _;generalize bF[dj]'(by have:=bk.out;omega)=es at B5;obtain⟨uF,bZ,HQ⟩:=mC dj es B5;have K_:es.length≤1000000:=e7.out es (List.mem_of_getElem? B5);obtain⟨cM,aM,rfl,U⟩:=fC.at_ HQ;have gd:=ab.ad lk bZ;rw[Nat.mul_one]at gd;have alh:=bd lk ab.size;have vz:bF[((dj:Nat):Int).toNat]?.getD []=es:=by rw[Int.toNat_natCast,B5];rfl
   have GP:gU n es:=by have:=aI.out (dj:Int);rwa [vz]at this
   rw[wM,vz]at aG;obtain⟨dq,dR,fU,jN⟩:=aae es s q (by rw[ax];exact GP);rw[List.length_cons]at hm jJ;have Ql:AG<wr.heap.size:=qL.lt;have XZ:∀(j:Nat) (x:Int),q[j]?=some x→cur[r7+1+j]?=some (.int .i64 x):=fun j x aB=>by have:=nu (j+1) x aB;rwa [show r7+(j+1)=r7+1+j by omega]at this
   have sh:=hid U;have hlen:((((dj:Nat):Int)::q).length:Int)=q.length+1:=by rw[List.length_cons];omega
   have Qi:(0:Int)<(q.length:Int)+1:=by omega
   have Ck:q.length≤3000:=by omega
   have cV:=hid (And.intro dq (And.intro dR (And.intro fU jN)));have dd:=hid aG;have ND:=hid (And.intro Li XZ);have cg:=hid aU;have du:=hid ab;clear dq dR fU jN aG Li XZ HQ bZ mC B5 vz U nu aU ab;rw[List.length_cons];have bz:Hid (lH wr w.heap.size (if kk=1 then .slice (some ⟨AG,r7,none⟩) 0 0 else .slice (some ⟨AG,r7+1,none⟩) q.length (kk-1)) q):=hid (by
    by_cases cx:kk=1
    ·rw[if_pos cx];obtain rfl:q=[]:=List.length_eq_zero_iff.1 (by omega);exact⟨AG,r7,0,cur,rfl,XX,qL,Nat.le_refl _,Nat.zero_le _,by omega,fun j x aB=>by cases aB⟩
    ·rw[if_neg cx];exact⟨AG,r7+1,kk-1,cur,rfl,XX,qL,by omega,by omega,by omega,ND.out.2⟩)
   have dO:Hid ((if kk=1 then Value.slice (some ⟨AG,r7,none⟩) 0 0 else .slice (some ⟨AG,r7+1,none⟩) q.length (kk-1)).ownBlock≠some w.heap.size):=hid (by
    by_cases cx:kk=1
    ·rw[if_pos cx];exact Lh
    ·rw[if_neg cx];exact Lh)
   clear qL Lh;have PS:(kk=1∧q=[])∨kk≠1:=by
    by_cases cx:kk=1
    ·exact .inl ⟨cx,List.length_eq_zero_iff.1 (by omega)⟩
    ·exact .inr cx
   have cp:=hid (show 2*ot s+q.length≤2*n+2 by omega);rcases PS with⟨rfl,rfl⟩|cx
   ·rw[if_pos rfl]at bz dO;clear hlen Qi;go_wp2_with fail
    go_loopw [6,31] (fun y z xw=>∃(j:Nat) (s2:List Bool) (aN:List Int),z= .int .i64 j∧j≤es.length∧lH xw w.heap.size y aN∧y.ownBlock≠some w.heap.size∧ao xw w.heap.size 4 (iw s2)∧s2.length=n∧Kept w xw∧2*ot s2+aN.length≤2*n+2∧mn (es.drop j) s2 aN=mn es s []) (fun _ z _=>(es.length-intOf z).toNat)
    case atStart=>exact⟨0,s,[],rfl,Nat.zero_le _,bz.out,dO.out,cg.out,ax,du.out,cp.out,rfl⟩
    case round=>
     obtain⟨j,s2,aN,rfl,aB,sJ,nW,ib,mG,hD,iJ,kF⟩:=hrel;by_cases aD:j<es.length
     ·obtain⟨bc,k4,rfl,dK,fH⟩:=sh.out (by omega);have Ht:es[j]?=some (es[j]'aD):=a8 _;have b3:=fH j _ Ht;obtain⟨Xb,Ei⟩:=GP _ (List.getElem_mem aD);rw[List.drop_eq_getElem_cons aD,mn]at kF;generalize es[j]'aD=c_ at*;obtain⟨bm,rfl⟩:∃bm:Nat,c_=bm:=⟨c_.toNat,by omega⟩;have hO:=hD.ad dK b3;have c6:(j:Int)<es.length:=by omega
      have nX:bm<s2.length:=by omega
      have fs:s2[bm]?=some (s2[bm]'nX):=a8 _;have iA:dG s2 (bm:Int)=s2[bm]'nX:=by unfold dG;rw[Int.toNat_natCast,fs];rfl
      have qw:=ib.cell bm;rw[qu fs]at qw;rw[iA]at kF;have Hn:s2[bm]'nX=false→ot (s2.set bm true)+1=ot s2:=fun h=>by have:=OC (s:=s2) (e:=(bm:Int)) ⟨by omega,by omega⟩ (by rw[iA,h]);rwa [Int.toNat_natCast]at this
      have C3:=hid Hn;generalize s2[bm]'nX=lg at*;obtain⟨-,kV,J1⟩:=ib.q;have bn:=hid (And.intro sJ (And.intro nW (And.intro ib (And.intro mG (And.intro hD iJ)))));have iu:=hid kF;have cD:=hid fs;clear fH Ht b3 iA Hn sJ nW ib mG hD kF fs
      cases lg
      ·go_upto_region 11 with fail
       have ji:=hid (bn.out.2.2.1.aP bm (.bool true));have tz:=hid (lH.other bn.out.1 (p:=⟨w.heap.size,bm,none⟩) (u:= .bool true) rfl bn.out.2.1);have gM:=hid (bn.out.2.2.2.2.1.setCell (p:=⟨w.heap.size,bm,none⟩) (Nat.le_refl _) (.bool true));have n2:(wr.setCell ⟨w.heap.size,bm,none⟩ (.bool true)).heap.size=wr.heap.size:=by simp
       clear qw J1;generalize wr.setCell ⟨w.heap.size,bm,none⟩ (.bool true)=wJ at*;rw[←n2]at kV;clear n2;have afm:aN.length≤3000:=by omega
       go_wp2_with (at_builtin;refine abm _ rfl (.tmp 43) (.tmp 45) rfl ij hS hT hU hV w.heap.size _ aN rfl (tz.out.kept (Kept.alloc (aQ _) _)) ⟨wJ.heap.size,0,none⟩ 1 (bm:Int) rfl (cell_one_new _ _ _) (by omega) (by simp;omega) ?_;intro v' cf g1 g2 g3;have dW:=hid (And.intro g1 (And.intro g2 g3));clear g1 g2 g3)
       obtain⟨g1,g2,g3⟩:=dW.out;go_roundw
       case rel=>
        obtain⟨-,nW,-,mG,-,iJ⟩:=bn.out;have bQ:v'.ownBlock≠some w.heap.size:=by
         rcases g3 with h|⟨hR,h,Hs⟩
         ·rw[h];exact nW
         ·rw[h];intro e;have:=Option.some.inj e;simp at Hs;omega
        have yc:ao cf w.heap.size 4 (iw (s2.set bm true)):=by
         have h:=ji.out.alloc (.cells #[.int .i64 (bm:Int)] 3);rw[x1]at h;exact (g2.block w.heap.size h.lt (fun e=>nW e.symm)).trans h
        have aH:=iu.out;rw[if_neg (by simp),Int.toNat_natCast]at aH;have HM:=And.intro g1 (And.intro bQ (And.intro yc (And.intro (show (s2.set bm true).length=n by rw[List.length_set];exact mG) (And.intro (Y0 (gM.out.alloc _) (tz.out.kept (Kept.alloc (aQ _) _)) (Nat.le_refl _) g2) (And.intro (show 2*ot (s2.set bm true)+(aN++[(bm:Int)]).length≤2*n+2 by have:=C3.out (by trivial);rw[List.length_append,List.length_singleton];omega) aH)))))
        first
         |exact⟨j+1,s2.set bm true,aN++[(bm:Int)],rfl,aD,HM⟩
         |exact⟨_,_,_,⟨j+1,rfl,aD,s2.set bm true,aN++[(bm:Int)],HM⟩,rfl,rfl,rfl⟩
       case measure=>simp[intOf];omega
      ·go_wp2_with fail
       go_roundw
       case rel=>exact⟨j+1,s2,aN,rfl,aD,bn.out.1,bn.out.2.1,bn.out.2.2.1,bn.out.2.2.2.1,bn.out.2.2.2.2.1,bn.out.2.2.2.2.2,by have:=iu.out;rwa [if_pos rfl]at this⟩
       case measure=>simp[intOf];omega
     ·obtain rfl:j=es.length:=by omega
      have c6:¬((es.length:Int)<es.length):=by omega
      rw[List.drop_length,mn]at kF;have bn:=hid (And.intro sJ (And.intro nW (And.intro ib (And.intro mG (And.intro hD kF)))));clear sJ nW ib mG hD kF;go_wp2_with fail
      go_roundg F
      case measure=>omega
      case rel=>
       obtain⟨sJ,nW,ib,mG,hD,ig⟩:=bn.out;obtain⟨-,-,fU,jN⟩:=cV.out;have aH:=dd.out;rw[←ig]at fU jN aH;exact⟨s2,aN,sJ,nW,ib,mG,fun x af=>by
        rcases (fU x).1 af with h|⟨h,-⟩
        ·exact ND.out.1 x (List.mem_cons_of_mem _ h)
        ·exact GP x h,hD,by dsimp only at jN;omega,by omega,aH⟩
   ·rw[if_neg cx]at bz dO;go_wp2_with fail
    go_loopw [6,31] (fun y z xw=>∃(j:Nat) (s2:List Bool) (aN:List Int),z= .int .i64 j∧j≤es.length∧lH xw w.heap.size y aN∧y.ownBlock≠some w.heap.size∧ao xw w.heap.size 4 (iw s2)∧s2.length=n∧Kept w xw∧2*ot s2+aN.length≤2*n+2∧mn (es.drop j) s2 aN=mn es s q) (fun _ z _=>(es.length-intOf z).toNat)
    case atStart=>exact⟨0,s,q,rfl,Nat.zero_le _,bz.out,dO.out,cg.out,ax,du.out,cp.out,rfl⟩
    case round=>
     obtain⟨j,s2,aN,rfl,aB,sJ,nW,ib,mG,hD,iJ,kF⟩:=hrel;by_cases aD:j<es.length
     ·obtain⟨bc,k4,rfl,dK,fH⟩:=sh.out (by omega);have Ht:es[j]?=some (es[j]'aD):=a8 _;have b3:=fH j _ Ht;obtain⟨Xb,Ei⟩:=GP _ (List.getElem_mem aD);rw[List.drop_eq_getElem_cons aD,mn]at kF;generalize es[j]'aD=c_ at*;obtain⟨bm,rfl⟩:∃bm:Nat,c_=bm:=⟨c_.toNat,by omega⟩;have hO:=hD.ad dK b3;have c6:(j:Int)<es.length:=by omega
      have nX:bm<s2.length:=by omega
      have fs:s2[bm]?=some (s2[bm]'nX):=a8 _;have iA:dG s2 (bm:Int)=s2[bm]'nX:=by unfold dG;rw[Int.toNat_natCast,fs];rfl
      have qw:=ib.cell bm;rw[qu fs]at qw;rw[iA]at kF;have Hn:s2[bm]'nX=false→ot (s2.set bm true)+1=ot s2:=fun h=>by have:=OC (s:=s2) (e:=(bm:Int)) ⟨by omega,by omega⟩ (by rw[iA,h]);rwa [Int.toNat_natCast]at this
      have C3:=hid Hn;generalize s2[bm]'nX=lg at*;obtain⟨-,kV,J1⟩:=ib.q;have bn:=hid (And.intro sJ (And.intro nW (And.intro ib (And.intro mG (And.intro hD iJ)))));have iu:=hid kF;have cD:=hid fs;clear fH Ht b3 iA Hn sJ nW ib mG hD kF fs
      cases lg
      ·go_upto_region 11 with fail
       have ji:=hid (bn.out.2.2.1.aP bm (.bool true));have tz:=hid (lH.other bn.out.1 (p:=⟨w.heap.size,bm,none⟩) (u:= .bool true) rfl bn.out.2.1);have gM:=hid (bn.out.2.2.2.2.1.setCell (p:=⟨w.heap.size,bm,none⟩) (Nat.le_refl _) (.bool true));have n2:(wr.setCell ⟨w.heap.size,bm,none⟩ (.bool true)).heap.size=wr.heap.size:=by simp
       clear qw J1;generalize wr.setCell ⟨w.heap.size,bm,none⟩ (.bool true)=wJ at*;rw[←n2]at kV;clear n2;have afm:aN.length≤3000:=by omega
       go_wp2_with (at_builtin;refine abm _ rfl (.tmp 43) (.tmp 45) rfl ij hS hT hU hV w.heap.size _ aN rfl (tz.out.kept (Kept.alloc (aQ _) _)) ⟨wJ.heap.size,0,none⟩ 1 (bm:Int) rfl (cell_one_new _ _ _) (by omega) (by simp;omega) ?_;intro v' cf g1 g2 g3;have dW:=hid (And.intro g1 (And.intro g2 g3));clear g1 g2 g3)
       obtain⟨g1,g2,g3⟩:=dW.out;go_roundw
       case rel=>
        obtain⟨-,nW,-,mG,-,iJ⟩:=bn.out;have bQ:v'.ownBlock≠some w.heap.size:=by
         rcases g3 with h|⟨hR,h,Hs⟩
         ·rw[h];exact nW
         ·rw[h];intro e;have:=Option.some.inj e;simp at Hs;omega
        have yc:ao cf w.heap.size 4 (iw (s2.set bm true)):=by
         have h:=ji.out.alloc (.cells #[.int .i64 (bm:Int)] 3);rw[x1]at h;exact (g2.block w.heap.size h.lt (fun e=>nW e.symm)).trans h
        have aH:=iu.out;rw[if_neg (by simp),Int.toNat_natCast]at aH;have HM:=And.intro g1 (And.intro bQ (And.intro yc (And.intro (show (s2.set bm true).length=n by rw[List.length_set];exact mG) (And.intro (Y0 (gM.out.alloc _) (tz.out.kept (Kept.alloc (aQ _) _)) (Nat.le_refl _) g2) (And.intro (show 2*ot (s2.set bm true)+(aN++[(bm:Int)]).length≤2*n+2 by have:=C3.out (by trivial);rw[List.length_append,List.length_singleton];omega) aH)))))
        first
         |exact⟨j+1,s2.set bm true,aN++[(bm:Int)],rfl,aD,HM⟩
         |exact⟨_,_,_,⟨j+1,rfl,aD,s2.set bm true,aN++[(bm:Int)],HM⟩,rfl,rfl,rfl⟩
       case measure=>simp[intOf];omega
      ·go_wp2_with fail
       go_roundw
       case rel=>exact⟨j+1,s2,aN,rfl,aD,bn.out.1,bn.out.2.1,bn.out.2.2.1,bn.out.2.2.2.1,bn.out.2.2.2.2.1,bn.out.2.2.2.2.2,by have:=iu.out;rwa [if_pos rfl]at this⟩
       case measure=>simp[intOf];omega
     ·obtain rfl:j=es.length:=by omega
      have c6:¬((es.length:Int)<es.length):=by omega
      rw[List.drop_length,mn]at kF;have bn:=hid (And.intro sJ (And.intro nW (And.intro ib (And.intro mG (And.intro hD kF)))));clear sJ nW ib mG hD kF;go_wp2_with fail
      go_roundg F
      case measure=>omega
      case rel=>
       obtain⟨sJ,nW,ib,mG,hD,ig⟩:=bn.out;obtain⟨-,-,fU,jN⟩:=cV.out;have aH:=dd.out;rw[←ig]at fU jN aH;exact⟨s2,aN,sJ,nW,ib,mG,fun x af=>by
        rcases (fU x).1 af with h|⟨h,-⟩
        ·exact ND.out.1 x (List.mem_cons_of_mem _ h)
        ·exact GP x h,hD,by dsimp only at jN;omega,by omega,aH⟩
structure lf (w:World) (B G:Nat) (us:List Value) (ls:List (List Int)):Prop where
 fD:ao w G 92 us.toArray
 len:us.length=ls.length
 own:∀(d:Nat) (u:Value) (l:List Int),us[d]?=some u→ls[d]?=some l→cn w B u l
 ap:∀(d eR:Nat) (u km:Value),d≠eR→us[d]?=some u→us[eR]?=some km→h8 u km
 far:∀(d:Nat) (u:Value),us[d]?=some u→u.ownBlock≠some G
theorem lf.alloc {w:World} {B G:Nat} {us:List Value} {ls:List (List Int)} (h:lf w B G us ls) (o:Obj):lf (w.alloc o) B G us ls:=
 ⟨h.fD.alloc o,h.len,fun d u l hu aq=>World.ownsRow.alloc (h.own d u l hu aq) o,h.ap,h.far⟩
theorem cn.lV {w:World} {B:Nat} {v:Value} {l:List Int} (h:cn w B v l) {p:Addr} (bQ:v.ownBlock≠some p.block) (u:Value):cn (w.setCell p u) B v l:=by
 refine⟨h.1,?_⟩;rcases h.2 with U|⟨g,cap,cur,ay,J,ai,ae⟩
 ·exact .inl U
 ·refine .inr ⟨g,cap,cur,ay,J,?_,ae⟩;have aJ:ao w g 3 cur:=ai;exact aJ.far (fun e=>bQ (by rw[ay,←e];rfl)) u
theorem lf.kept {w w':World} {B G:Nat} {us:List Value} {ls:List (List Int)} (h:lf w B G us ls) (aa:Kept w w'):lf w' B G us ls:=by
 refine⟨h.fD.kept aa,h.len,fun d u l hu aq=> ?_,h.ap,h.far⟩;have aL:=h.own d u l hu aq;refine⟨aL.1,?_⟩;rcases aL.2 with U|⟨g,cap,cur,ay,J,ai,ae⟩
 ·exact .inl U
 ·have aJ:ao w g 3 cur:=ai;exact .inr ⟨g,cap,cur,ay,J,aJ.kept aa,ae⟩
theorem lf.upd {w w1:World} {B G d:Nat} {us:List Value} {ls:List (List Int)} {u v:Value} {m:List Int} (h:lf w B G us ls) (hu:us[d]?=some u) (aL:cn w1 B v m) (ai:w.grownBy w1 u.ownBlock)
  (ay:v.ownBlock=u.ownBlock∨v.ownBlock=some w.heap.size):lf (w1.setCell ⟨G,d,none⟩ v) B G (us.set d v) (ls.set d m):=by
 have ar:=h.fD.lt;have Ys:v.ownBlock≠some G:=by
  rcases ay with e|e
  ·rw[e];exact h.far d u hu
  ·rw[e];intro a6;have:=Option.some.inj a6;omega
 have av:=(b8 hu).1;have ea:ao w1 G 92 us.toArray:=(ai.block G ar (fun e=>h.far d u hu e.symm)).trans h.fD;refine⟨?_,by rw[List.length_set,List.length_set];exact h.len,fun eR km p0 iX lO=> ?_,fun d1 d2 u1 u2 bQ I U=> ?_,fun eR km iX=> ?_⟩
 ·have:=ea.aP d v;rwa [List.setIfInBounds_toArray]at this
 ·rw[List.getElem?_set]at iX lO;by_cases e:d=eR
  ·subst e;rw[if_pos rfl,if_pos av]at iX;rw[if_pos rfl,if_pos (by rw[←h.len];exact av)]at lO
   cases iX;cases lO;exact aL.lV Ys v
  ·rw[if_neg e]at iX lO;exact ((h.own eR km p0 iX lO).other ai (h.ap d eR u km e hu iX)).lV (h.far eR km iX) v
 ·rw[List.getElem?_set]at I U;by_cases az:d=d1
  ·subst az;rw[if_pos rfl,if_pos av]at I;rw[if_neg bQ]at U
   cases I;have mE:d2<ls.length:=by rw[←h.len];exact (b8 U).1
   exact h8.grown ay (h.own d2 u2 _ U (a8 mE)) (h.ap d d2 u u2 bQ hu U)
  ·rw[if_neg az]at I;by_cases a6:d=d2
   ·subst a6;rw[if_pos rfl,if_pos av]at U
    cases U;have sR:d1<ls.length:=by rw[←h.len];exact (b8 I).1
    exact (h8.grown ay (h.own d1 u1 _ I (a8 sR)) (h.ap d d1 u u1 az hu I)).symm
   ·rw[if_neg a6]at U;exact h.ap d1 d2 u1 u2 bQ I U
 ·rw[List.getElem?_set]at iX;by_cases e:d=eR
  ·subst e;rw[if_pos rfl,if_pos av]at iX
   cases iX;exact Ys
  ·rw[if_neg e]at iX;exact h.far eR km iX
theorem af3 {w:World} {b off:Nat} {bh:List Int} (ah:∀(j:Nat) x,bh[j]?=some x→w.cell? ⟨b,off+j,none⟩=some (.int .i64 x)):∀j u,(bh.map (Value.int .i64))[j]?=some u→w.cell? ((⟨b,off,none⟩:Addr).add j)=some u:=by
 intro j u aB;rw[List.getElem?_map]at aB
 cases db:bh[j]? with
 |none=>rw[db]at aB;cases aB
 |some x=>
  rw[db]at aB;have:=ah j x db;have e:(⟨b,off,none⟩:Addr).add j=⟨b,off+j,none⟩:=by
   unfold Addr.add;by_cases aj:j=0
   ·subst aj;rfl
   ·simp[aj]
  rw[e,this];exact aB
theorem acz {w:World} {base:Nat} {v:Value} {xs:List Int} (ar:cn w base v xs) {x:Value} {bh:List Int} (vt:fC w x bh) (aq:xs.length+bh.length≤2000000) (J:base≤w.heap.size) (ty:TypeId):
  ∃v' w',(Builtin.append_ #[92,92] ty #[v,x]).run prog w= .ok v' w'∧cn w' base v' (xs++bh)∧w.grownBy w' v.ownBlock∧(v'.ownBlock=v.ownBlock∨v'.ownBlock=some w.heap.size):=by
 obtain⟨i0,aE,fy,cb,eu⟩:=info_parts Tryz.rX;obtain⟨A,cap,rfl,af⟩:=vt.at_;by_cases aj:bh=[]
 ·subst aj;have Ya:Src prog i0.size 92 (.slice A 0 cap) 0 [] w:=⟨.inl ⟨3,underlying92⟩,fun w'=>by simp[Builtin.lenOf],by cases A<;>simp[Builtin.firstCells,loadCells,loadCellsFrom],by cases A<;>simp[Builtin.firstCells,loadCells,loadCellsFrom],by simp,fun u hu=>by cases hu⟩;refine⟨v,w,?_,by rw[List.append_nil];exact ar,⟨rfl,rfl,rfl,Nat.le_refl _,fun _ _ _=>rfl⟩,.inl rfl⟩;rcases ar.2 with⟨rfl,_⟩|⟨g,ky,cur,rfl,_,_,hnc,_⟩
  ·exact run_append_nothing w _ _ ty 3 i0 underlying92 aE none 0 0 (Nat.le_refl _) _ Ya
  ·exact run_append_nothing w _ _ ty 3 i0 underlying92 aE _ _ _ hnc _ Ya
 ·obtain⟨b,off,rfl,jt,ah⟩:=af (List.length_pos_iff.2 aj);obtain⟨v',w',I,U,ae,_,bp⟩:=run_append_own_at (P:=prog) (w:=w) base 92 ty 3 i0 () 1 8 underlying92 aE fy cb eu rfl (by decide) v xs.length (xs.map (Value.int .i64)) ar ⟨b,off,none⟩ bh.length cap (bh.map (Value.int .i64)) (by simp) (af3 ah)
   (fun u hu=>by obtain⟨y,_,rfl⟩:=List.mem_map.1 hu;rfl) (by unfold maxLen;omega) (by omega) J
  refine⟨v',w',I,?_,ae,bp⟩;unfold cn;rw[List.length_append,List.map_append];exact U
theorem abn {o:Oper} {a:Act} {K:Act→World→Prop} {Q:Exit→Act→World→Prop} {w:World} (s x:Operand)
  (aL:o.op= .call {callee:= .builtin .append,args:=#[s,x],argTypes:=#[92,92]}) {base:Nat} {v:Value} {xs:List Int} (ax:a.eval s=v) (ar:cn w base v xs) {q2:Value} {bh:List Int} (af:a.eval x=q2) (vt:fC w q2 bh)
  (aq:xs.length+bh.length≤2000000) (J:base≤w.heap.size) (h:∀v' w',cn w' base v' (xs++bh)→w.grownBy w' v.ownBlock→(v'.ownBlock=v.ownBlock∨v'.ownBlock=some w.heap.size)→K (a.put o.dst v') w'):o.wp prog a w K Q:=by
 obtain⟨v',w',aH,I,U,ae⟩:=acz ar vt aq J o.type;unfold Oper.wp execOp;simp only[aL,resolve,invoke,builtin,Sem.run_bind,Sem.run_pure,Result.andThen_ok,List.map_toArray,List.map_cons,List.map_nil,ax,af,aH];exact h v' w' I U ae
def iH (w:World) (v:Value) (x:bP):Prop:=∃bo b6 bA,v= .agg #[x.ag,x.ms,bo,b6,bA]∧cH 3 fL w bo x.ins∧cH 3 fL w b6 x.ds∧cH 9 mv w bA x.rs
theorem iH.kept {w w':World} {v:Value} {x:bP} (h:iH w v x) (aa:Kept w w'):iH w' v x:=by
 obtain⟨bo,b6,bA,ay,I,U,ae⟩:=h;exact⟨bo,b6,bA,ay,I.kept fL.kept aa,U.kept fL.kept aa,ae.kept mv.kept aa⟩
def Bw (n:Nat) (r:bf) (a:List (List Int)):List (List Int):=if 0≤r.bK∧r.bK<n then a.set r.bK.toNat ((a[r.bK.toNat]?.getD [])++tR n r)else a
def ry (n:Nat):List bf→List (List Int)→List (List Int)
 |[],a=>a
 |r::rs,a=>ry n rs (Bw n r a)
def gg (n:Nat) (rs:List bf):List (List Int):=(ry n rs (List.replicate n [])).map fl
theorem Ul (n:Nat) (r:bf) (a:List (List Int)):(Bw n r a).length=a.length:=by
 unfold Bw;split
 ·rw[List.length_set]
 ·rfl
theorem Um (n:Nat):∀(rs:List bf) (a:List (List Int)),(ry n rs a).length=a.length:=by
 intro rs;induction rs with
 |nil=>intro a;rfl
 |cons r rs bH=>intro a;rw[ry,bH,Ul]
theorem BH (n:Nat) (rs:List bf):(gg n rs).length=n:=by
 unfold gg;rw[List.length_map,Um,List.length_replicate]
theorem LA {n:Nat} {r:bf} {e:Int}:e∈tR n r↔(0≤e∧e<n)∧(e∈i' r.g∨e∈i' r.v):=by
 unfold tR;rw[List.mem_append,List.mem_filter,List.mem_filter,E4,E4];unfold j3;rw[decide_eq_true_eq];constructor
 ·rintro (⟨h,dp⟩|⟨h,dp⟩)
  ·exact⟨dp,.inl h⟩
  ·exact⟨dp,.inr h⟩
 ·rintro⟨h,dp|dp⟩
  ·exact .inl ⟨dp,h⟩
  ·exact .inr ⟨dp,h⟩
theorem agW {n:Nat}:∀(rs:List bf) (a:List (List Int)),a.length=n→∀(d:Nat),d<n→∀e,e∈(ry n rs a)[d]?.getD []↔e∈a[d]?.getD []∨∃r∈rs,r.bK=d∧e∈tR n r:=by
 intro rs;induction rs with
 |nil=>intro a _ d _ e;simp[ry]
 |cons r rs bH=>
  intro a aZ d av e;rw[ry,bH _ ((Ul n r a).trans aZ) d av e];have I:e∈(Bw n r a)[d]?.getD []↔e∈a[d]?.getD []∨(r.bK=d∧e∈tR n r):=by
   unfold Bw;by_cases aH:0≤r.bK∧r.bK<n
   ·rw[if_pos aH,List.getElem?_set];by_cases EE:r.bK.toNat=d
    ·rw[if_pos EE,if_pos (by omega),Option.getD_some,List.mem_append,EE];exact⟨fun h=>h.imp id fun h=>⟨by omega,h⟩,fun h=>h.imp id fun h=>h.2⟩
    ·rw[if_neg EE];exact⟨.inl,fun h=>h.resolve_right fun bb=>EE (by omega)⟩
   ·rw[if_neg aH];exact⟨.inl,fun h=>h.resolve_right fun bb=>aH (by omega)⟩
  rw[I,or_assoc];constructor
  ·rintro (h|⟨h,dp⟩|⟨x,af,h⟩)
   ·exact .inl h
   ·exact .inr ⟨r,List.mem_cons_self ..,h,dp⟩
   ·exact .inr ⟨x,List.mem_cons_of_mem _ af,h⟩
  ·rintro (h|⟨x,af,h⟩)
   ·exact .inl h
   ·rcases List.mem_cons.1 af with rfl|af
    ·exact .inr (.inl h)
    ·exact .inr (.inr ⟨x,af,h⟩)
theorem Zr {n:Nat} {rs:List bf} {d:Nat} (av:d<n) {e:Int}:e∈(gg n rs)[d]?.getD []↔∃r∈rs,r.bK=d∧e∈tR n r:=by
 unfold gg;have aq:d<(ry n rs (List.replicate n [])).length:=by rw[Um,List.length_replicate];exact av
 rw[List.getElem?_map,a8 aq,Option.map_some,Option.getD_some,E4];have h:=agW rs (List.replicate n []) (List.length_replicate ..) d av e;rw[a8 aq,Option.getD_some]at h;rw[h,List.getElem?_replicate,if_pos av];simp
theorem ahq (v:Value) (e:List cz) (E:dC) (q F:Nat) (x:cz) (w:World) (ay:(cF e).2.2=0) (af:e[q]?=some x) (aZ:0≤dY x.o) (bC:∀l,l<q→wE e E l) (hF:q≤F) (dZ:tg w v e (cF e).1 E) (br:Mon w) (aL:x.o=23∨x.o=24∨x.o=26):
  Calls prog 78 #[v,q] w (fN (fY ca E e (cF e).1 (F+1) q) w):=by
 have bn:Hid (e[q]?=some x):=hid af;obtain⟨gI,ks⟩:=x;obtain⟨L,vr,wX,qF⟩:=ZY (a:=(dY gI).toNat) ay af (by dsimp only at aZ⊢;omega);have dM:=hid (fun w1 (h:Kept w w1)=>Vt v e E q (dY gI).toNat ⟨gI,ks⟩ w1 (dZ.kept h) ay af (by dsimp only at aZ⊢;omega));have eU:=hid dZ;obtain⟨ny,b2,cl,aC,cM,aM,cX,a1,ef,bN,dk,bJ,rfl,bM,bj,aX⟩:=dZ;have cv:=hid aX;obtain⟨A,cap,rfl,aK⟩:=bM.at_;obtain⟨qp,ly,rfl,-⟩:=CH bj;have Cj:=(b8 af).1;obtain⟨bY,jv,rfl,ea,cx⟩:=aK (by omega);obtain⟨bZ,b3⟩:=cx q _ af;dsimp only at bZ b3;have aG:fY ca E e (cF e).1 (F+1) q=yz ⟨gI,ks⟩ (fun j=>fY ca E e (cF e).1 F ((L.map (fun n:Nat=>(n:Int)))[j]?.getD 0)):=by
  rw[fY,Int.toNat_natCast,af];simp only[Option.getD_some];rw[if_pos aL,wX]
 have bq:Hid (∀(w1:World) (g:Nat),Kept w w1→ao w1 g 3 (qO (L.map (fun n:Nat=>(n:Int))))→Calls prog 110 #[.agg #[.slice (some ⟨bY,jv,none⟩) e.length cap,.slice qp (cF e).1.length ly,E.dt,.slice cl E.ins.length aC,.slice cM E.ds.length aM,.slice cX E.ms.length a1,.slice ef E.mt.length bN,.slice dk E.tb.length bJ],.agg #[gI,ks],.slice (some ⟨g,0,none⟩) (L.map (fun n:Nat=>(n:Int))).length (L.map (fun n:Nat=>(n:Int))).length] w1 (fN (fY ca E e (cF e).1 (F+1) q) w1)):=by
  refine hid fun w1 g aa aU=> ?_;rw[aG];by_cases aA:ks=0
  ·subst aA;by_cases Pg:gI=26
   ·subst Pg;obtain⟨cA,a7,bx,rfl⟩:∃cA a7 bx,L=[cA,a7,bx]:=by
     match L,vr with
     |[a,b,c],_=>exact⟨a,b,c,rfl⟩
    exact agr _ e E F cA a7 bx g w1 (bC _ (qF _ (by simp))) (by have:=qF cA (by simp);omega) (bC _ (qF _ (by simp))) (by have:=qF a7 (by simp);omega) (bC _ (qF _ (by simp))) (by have:=qF bx (by simp);omega) (eU.out.kept aa) (br.kept aa) aU
   ·have Lb:gI=23∨gI=24:=by simp only at aL;omega
    have BX:(dY gI).toNat=2:=by rcases Lb with rfl|rfl<;>rfl
    rw[BX]at vr;obtain⟨cA,a7,rfl⟩:∃cA a7,L=[cA,a7]:=by
     match L,vr with
     |[a,b],_=>exact⟨a,b,rfl⟩
    exact ags _ e E F cA a7 g gI w1 (bC _ (qF _ (by simp))) (by have:=qF cA (by simp);omega) (bC _ (qF _ (by simp))) (by have:=qF a7 (by simp);omega) (eU.out.kept aa) (br.kept aa) aU Lb
  ·exact agt _ _ gI ks _ w1 aA (by unfold yz;rw[if_pos aA]) _ _ _ _ _ _ E _ _ _ _ _ _ _ _ _ _ rfl
 obtain⟨R,aw⟩:∃R,R=fY ca E e (cF e).1 (F+1) q:=⟨_,rfl⟩;rw[←aw]at bq⊢;obtain⟨⟨eX,gw,dw⟩,rc⟩:=R;unfold fN at*;unfold LQ at dM;rw[wX]at dM;have Ce:(gI==23)=true∨((gI==23)=false∧(gI==24)=true)∨((gI==23)=false∧(gI==24)=false∧(gI==26)=true):=by have ae:gI=23∨gI=24∨gI=26:=aL;rcases ae with h|h|h<;>simp[h]
 have rR:(q:Int)<e.length:=by omega
 generalize L.map (fun n:Nat=>(n:Int))=Jy at*;generalize bQ:e.length=ne at*;generalize (cF e).1.length=dQ at*;clear aw aG vr wX qF bC aX bM bj aK cx aL af bn bQ ay cv eU aZ;rcases Ce with aO|⟨aO,aN⟩|⟨aO,aN,cK⟩
 all_goals
  go_enter func78,ntmps78
  go_upto_region 2 with fail
  generalize ar:((w.alloc _).alloc _).alloc _=W at*;obtain⟨aF,a_,aS,aT⟩:=Kept.b7 ar;clear ar;obtain⟨dL,cA⟩:=a_.p;obtain⟨dR,bx⟩:=aT.p;obtain⟨dq,a7,RD⟩:=aS.q;go_upto_region 3 with (go_at_call 109;refine (dM.out _ (by with_reducible repeat first|exact .refl _|assumption|refine .drew ?_|refine .alloc ?_ _|refine .setCell ?_ (by (try simp only);omega) _|refine .trans ?_ ‹Kept _ _›)).mono ?_;rintro y w1 ⟨u,rfl,⟨g,rfl,ai,aU⟩,ak⟩)
  have hJ:=a_.kept ak;have fc:=aS.kept ak;have cm:=aT.kept ak;have bB:=aF.trans ak;clear dL cA dR bx dq RD a7 a_ aS aT;obtain⟨dL,cA⟩:=hJ.p;obtain⟨dR,bx⟩:=cm.p;obtain⟨dq,a7,RD⟩:=fc.q;go_wp2_with (go_at_call 110;refine (bq.out _ g bB aU).mono ?_;rintro y w2 ⟨rfl,a'⟩;have cr:=fc.kept a';have d1c:=cr.cell;have OK:=cr.frozen;have OL:=cr.lt)
  have Z:=(((cr.aP 0 eX).aP 1 gw).aP 2 dw).cell;exact bodyPost_ret (v:= .tuple #[.agg #[eX,gw,dw],rc]) (by simp[results,results78,go_sem,Z]) rfl ⟨rfl,(by with_reducible repeat first|exact .refl _|assumption|refine .drew ?_|refine .alloc ?_ _|refine .setCell ?_ (by (try simp only);omega) _|refine .trans ?_ ‹Kept _ _›)⟩
theorem ahp (v:Value) (e:List cz) (E:dC) (q F:Nat) (x:cz) (w:World) (ay:(cF e).2.2=0) (af:e[q]?=some x) (aZ:0≤dY x.o) (bC:∀l,l<q→wE e E l) (hF:q≤F) (dZ:tg w v e (cF e).1 E) (br:Mon w) (aL:¬(x.o=23∨x.o=24∨x.o=26)) (aA:gT x.n):
  Calls prog 78 #[v,q] w (fN (fY ca E e (cF e).1 (F+1) q) w):=by
 have bn:Hid (e[q]?=some x):=hid af;obtain⟨gI,ks⟩:=x;obtain⟨L,vr,wX,qF⟩:=ZY (a:=(dY gI).toNat) ay af (by dsimp only at aZ⊢;omega);have dM:=hid (fun w1 (h:Kept w w1)=>Vt v e E q (dY gI).toNat ⟨gI,ks⟩ w1 (dZ.kept h) ay af (by dsimp only at aZ⊢;omega));have eU:=hid dZ;obtain⟨ny,b2,cl,aC,cM,aM,cX,a1,ef,bN,dk,bJ,rfl,bM,bj,aX⟩:=dZ;have cv:=hid aX;obtain⟨A,cap,rfl,aK⟩:=bM.at_;obtain⟨qp,ly,rfl,-⟩:=CH bj;have Cj:=(b8 af).1;obtain⟨bY,jv,rfl,ea,cx⟩:=aK (by omega);obtain⟨bZ,b3⟩:=cx q _ af;dsimp only at bZ b3;have hLn:L.length≤3:=by rw[vr];have:=(zI gI).2;omega
 have KK:(L.length:Int)=dY gI:=by rw[vr];exact Int.toNat_of_nonneg aZ
 have dn:=hid (fun (l:Nat) (aq:l∈L)=>bC l (qF l aq) F (bd (qF l aq) hF));have aG:fY ca E e (cF e).1 (F+1) q=if (rz (fY ca E e (cF e).1 F) (L.map (fun n:Nat=>(n:Int))) []).2≠0 then (v0,(rz (fY ca E e (cF e).1 F) (L.map (fun n:Nat=>(n:Int))) []).2)else pD ca ⟨gI,ks⟩ (rz (fY ca E e (cF e).1 F) (L.map (fun n:Nat=>(n:Int))) []).1 E:=by
  rw[fY,Int.toNat_natCast,af];simp only[Option.getD_some];rw[if_neg aL,wX]
 obtain⟨n,vC⟩:∃n,n=L.length:=⟨_,rfl⟩;have HLG:=hid (show∀i,i<n→∃l,L[i]?=some l∧l∈L from fun i aE=>⟨L[i]'(by omega),a8 _,List.getElem_mem _⟩);obtain⟨f,bO⟩:∃f,f=fY ca E e (cF e).1 F:=⟨_,rfl⟩;obtain⟨T,bl⟩:∃T,T=rz f (L.map (fun n:Nat=>(n:Int))) []:=⟨_,rfl⟩;have wz:=hid (show T.2=0→T.1.length=n from fun h=>by have:=acH (f:=f) (L.map (fun n:Nat=>(n:Int))) [] T.1 (by rw[←bl,←h]);simp at this;omega);rw[←bO,←bl]at aG;obtain⟨R,aw⟩:∃R,R=fY ca E e (cF e).1 (F+1) q:=⟨_,rfl⟩;have aI:=hid (aw.trans aG);rw[←aw];have ch:=hid (show rz f ((L.map (fun n:Nat=>(n:Int))).drop 0) []=T from bl.symm);have rR:(q:Int)<e.length:=by omega
 have q7:=hid (fun (ct:World) (c0:Value) (args:List bg) (aa:Kept w ct) (BP:ff ct c0 args) (aq:args.length=n)=>acE gI ks c0 _ args E ct (aX.kept aa) BP (by rw[aq,vC];exact KK) aA (by exact⟨fun h=>aL (.inl h),fun h=>aL (.inr (.inl h)),fun h=>aL (.inr (.inr h))⟩) (br.kept aa));have iE:Hid (∀(l:Nat) (ct:World),l∈L→Kept w ct→Calls prog 78 #[.agg #[.slice (some ⟨bY,jv,none⟩) e.length cap,.slice qp (cF e).1.length ly,E.dt,.slice cl E.ins.length aC,.slice cM E.ds.length aM,.slice cX E.ms.length a1,.slice ef E.mt.length bN,.slice dk E.tb.length bJ],.int .i64 l] ct (fN (f (l:Int)) ct)):=hid fun l ct aq aa=>by rw[bO];exact dn.out l aq _ ct (eU.out.kept aa) (br.kept aa)
 unfold LQ at dM;rw[wX]at dM;have o23:(gI==23)=false:=beq_eq_false_iff_ne.2 fun h=>aL (.inl h);have o24:(gI==24)=false:=beq_eq_false_iff_ne.2 fun h=>aL (.inr (.inl h));have o26:(gI==26)=false:=beq_eq_false_iff_ne.2 fun h=>aL (.inr (.inr h));obtain⟨i0,aE,fy,cb,eu⟩:=info_parts Tryz.YU;generalize bQ:e.length=ne at*;generalize (cF e).1.length=dQ at*;have rN:n≤3:=by omega
 have alY:(n:Int)≤3:=by omega
 generalize Pt:L.map (fun n:Nat=>(n:Int))=Jy at*;have iQ:=hid Pt;have hlen:Jy.length=n:=by rw[←Pt,List.length_map,vC]
 have so:=hid hlen;clear aw aG vr wX qF bC aX bM bj aK cx aL af bn bQ ay cv eU aZ bO bl Pt hlen KK vC hLn dn aA;go_enter func78,ntmps78
 go_upto_region 2 with fail
 generalize ar:((w.alloc _).alloc _).alloc _=W at*;obtain⟨aF,a_,aS,aT⟩:=Kept.b7 ar;clear ar;obtain⟨dL,cA⟩:=a_.p;obtain⟨dR,bx⟩:=aT.p;go_upto_region 3 with (go_at_call 109;refine (dM.out _ (by with_reducible repeat first|exact .refl _|assumption|refine .drew ?_|refine .alloc ?_ _|refine .setCell ?_ (by (try simp only);omega) _|refine .trans ?_ ‹Kept _ _›)).mono ?_;rintro y w1 ⟨u,rfl,⟨g,rfl,ai,aU⟩,ak⟩)
 rw[so.out];have hJ:=a_.kept ak;have fc:=aS.kept ak;have cm:=aT.kept ak;have bB:=aF.trans ak;have Ek:w.heap.size≤g:=Nat.le_trans aF.size ai;have e2:g<w1.heap.size:=aU.lt;clear dL cA dR bx a_ aS aT ak aF ai bZ b3 dM;generalize J:w.heap.size=b at*;obtain⟨dL,cA⟩:=hJ.p;obtain⟨dR,bx⟩:=cm.p;go_wp2_with (at_make;refine wpList_make_full _ rfl _ _ 31 rfl w1.heap.size 44 i0 (.agg #[(),(),()]) 3 underlying31 aE fy cb _ _ _ _ n rfl rfl rfl rfl (by rw[eu];omega) (by unfold maxLen;omega) (Nat.le_refl _) ?_;intro w2 cR cd)
 obtain⟨V3,iI⟩:=Zk cR cd;clear cR cd dL cA dR bx;have bR:=bB.trans iI;have rK:=iI;have hlw:=cm.lt;go_loopw [38] (fun y wr=>∃(i:Nat) (acc:List bg),y= .int .i64 i∧acc.length=i∧i≤n∧rz f (Jy.drop i) acc=T∧Kept w1 wr∧ao wr w1.heap.size 44 (sd (acc++List.replicate (n-i) v0))) (fun y _=>(n-intOf y).toNat)
 case atStart=>exact⟨0,[],rfl,rfl,Nat.zero_le _,ch.out,iI,V3⟩
 case round=>
  obtain⟨i,acc,rfl,vu,de,aG,ab,yd⟩:=hrel;clear iI V3 bR rK;have al:=bB.trans ab;have je:=hJ.kept ab;have cr:=fc.kept ab;have c2:=cm.kept ab;have lZ:=aU.kept ab;clear hJ fc cm aU;obtain⟨d0,d0l⟩:=je.p;by_cases aD:i<n
  ·obtain⟨l,aq,hm⟩:=HLG.out i aD;have mE:Jy[i]?=some (l:Int):=by rw[←iQ.out,List.getElem?_map,aq];rfl
   rw[List.drop_eq_getElem_cons (by rw[so.out];exact aD),Uz]at aG;rw[(b8 mE).2]at aG;have UY:wr.cell? ⟨g,i,none⟩=some (.int .i64 (l:Int)):=by rw[lZ.cell];exact YV mE
   have cgl:=lZ.lt;have bI:=hid (fun ct (h:Kept wr ct)=>iE.out l ct hm (al.trans h));obtain⟨Z,jH⟩:∃Z,Z=f (l:Int):=⟨_,rfl⟩;rw[←jH]at bI aG;obtain⟨⟨AS,CV,Ss⟩,Sr⟩:=Z;unfold fN at bI;obtain⟨d1,OL,OK⟩:=cr.q;obtain⟨-,kV,J1⟩:=yd.q;have c6:(i:Int)<n:=by omega
   by_cases ah:Sr=0
   case neg=>
    have hh:(Sr !=0)=true:=by simpa using ah
    rw[if_pos ah]at aG;have iU:R=(v0,Sr):=by rw[aI.out,if_pos (by rw[←aG];exact ah),←aG]
    clear aG ah jH aq hm mE vu de;subst iU;unfold fN;go_wp2_with (go_at_call 78;refine (bI.out _ (by with_reducible repeat first|exact .refl _|assumption|refine .drew ?_|refine .alloc ?_ _|refine .setCell ?_ (by (try simp only);omega) _|refine .trans ?_ ‹Kept _ _›)).mono ?_;rintro y cw ⟨rfl,bw⟩;have ka:=je.kept bw;have gL:=cr.kept bw;have lC:=c2.kept bw;have anl:=lZ.kept bw;have hB:=yd.kept bw;have e0c:=ka.cell;have e0l:=ka.lt;have Vn:=gL.cell;have Vo:=gL.frozen;have Vp:=gL.lt;have erf:=hB.frozen;have erl:=hB.lt)
    have Z:=((((gL.aP 0 ()).aP 1 ()).aP 2 ()).alloc (.cells #[AS,CV,Ss] 44)).cell;exact bodyPost_ret (v:= .tuple #[.agg #[(),(),()],Sr]) (by simp[results,results78,go_sem,Z]) rfl ⟨rfl,(by with_reducible repeat first|exact .refl _|assumption|refine .drew ?_|refine .alloc ?_ _|refine .setCell ?_ (by (try simp only);omega) _|refine .trans ?_ ‹Kept _ _›)⟩
   case pos=>
    subst ah;have hh:((0:Int) !=0)=false:=rfl;have vH:List.replicate (n-i) v0=v0::List.replicate (n-(i+1)) v0:=by rw[←List.replicate_succ];congr 1;omega
    rw[vH]at yd;have h4:(acc++v0::List.replicate (n-(i+1)) v0)[i]?=some v0:=by rw[List.getElem?_append_right (by omega),vu,Nat.sub_self];rfl
    have e3:wr.cell? ⟨w1.heap.size,i*3,none⟩=some (.int .i64 0):=by rw[yd.cell];unfold sd;rw[List.getElem?_toArray];exact GS IL _ i v0 h4 0 _ rfl
    have ee:wr.cell? ⟨w1.heap.size,i*3+1,none⟩=some (.int .i64 0):=by rw[yd.cell];unfold sd;rw[List.getElem?_toArray];exact GS IL _ i v0 h4 1 _ rfl
    have fW:wr.cell? ⟨w1.heap.size,i*3+2,none⟩=some (.int .i64 0):=by rw[yd.cell];unfold sd;rw[List.getElem?_toArray];exact GS IL _ i v0 h4 2 _ rfl
    clear h4 vH;rw[if_neg (by simp)]at aG;have dd:=hid aG;clear aG jH aq hm mE;go_wp2_with (go_at_call 78;refine (bI.out _ (by with_reducible repeat first|exact .refl _|assumption|refine .drew ?_|refine .alloc ?_ _|refine .setCell ?_ (by (try simp only);omega) _|refine .trans ?_ ‹Kept _ _›)).mono ?_;rintro y cw ⟨rfl,bw⟩;have ka:=je.kept bw;have gL:=cr.kept bw;have lC:=c2.kept bw;have anl:=lZ.kept bw;have hB:=yd.kept bw;have e0c:=ka.cell;have e0l:=ka.lt;have Vn:=gL.cell;have Vo:=gL.frozen;have Vp:=gL.lt;have erf:=hB.frozen;have erl:=hB.lt;have wK:=bw.ad kV e3;have Bu:=bw.ad kV ee;have Gr:=bw.ad kV fW)
    go_roundw
    case rel=>
     have EO:=abg acc (List.replicate (n-(i+1)) v0) v0 ⟨AS,CV,Ss⟩;rw[vu]at EO;exact⟨i+1,acc++[⟨AS,CV,Ss⟩],rfl,by rw[List.length_append,vu];rfl,aD,dd.out,((((ab.trans bw).setCell (p:=⟨w1.heap.size,_,none⟩) (Nat.le_refl _) _).setCell (p:=⟨w1.heap.size,_,none⟩) (Nat.le_refl _) _).setCell (p:=⟨w1.heap.size,_,none⟩) (Nat.le_refl _) _).alloc _,by rw[List.append_assoc,List.singleton_append,←EO];exact (((hB.aP _ _).aP _ _).aP _ _).alloc _⟩
    case measure=>simp[intOf];omega
  ·obtain rfl:i=n:=by omega
   rw[List.drop_eq_nil_iff.2 (by rw[so.out];exact Nat.le_refl _),rz]at aG;rw[Nat.sub_self,List.replicate_zero,List.append_nil]at yd;have PI:=MC yd;rw[vu]at PI;have bI:=hid (fun ct (h:Kept wr ct)=>q7.out ct _ acc (al.trans h) (PI.kept h) vu);have iU:R=pD ca ⟨gI,ks⟩ acc E:=by rw[aI.out,if_neg (by rw[←aG];simp),←aG]
   rw[←iU]at bI;obtain⟨⟨eX,gw,dw⟩,rc⟩:=R;unfold fN at*;have c6:¬((i:Int)<i):=by omega
   obtain⟨d1,OL,OK⟩:=cr.q;obtain⟨d2,d2l⟩:=c2.p;clear aG vu iU PI;go_wp2_with (go_at_call 111;refine (bI.out _ (by with_reducible repeat first|exact .refl _|assumption|refine .drew ?_|refine .alloc ?_ _|refine .setCell ?_ (by (try simp only);omega) _|refine .trans ?_ ‹Kept _ _›)).mono ?_;rintro y cw ⟨rfl,bw⟩;have gL:=cr.kept bw;have Vn:=gL.cell;have Vo:=gL.frozen;have Vp:=gL.lt)
   have Z:=(((gL.aP 0 eX).aP 1 gw).aP 2 dw).cell;exact bodyPost_ret (v:= .tuple #[.agg #[eX,gw,dw],rc]) (by simp[results,results78,go_sem,Z]) rfl ⟨rfl,(by with_reducible repeat first|exact .refl _|assumption|refine .drew ?_|refine .alloc ?_ _|refine .setCell ?_ (by (try simp only);omega) _|refine .trans ?_ ‹Kept _ _›)⟩
theorem aho (e:List cz) (E:dC) (ay:(cF e).2.2=0) (bC:∀x∈e,gT x.n):∀n q:Nat,q<n→q<e.length→wE e E q:=by
 intro n;induction n with
 |zero=>intro q h;omega
 |succ n bH=>
  intro q au aq F hF v w dZ br;have af:e[q]?=some (e[q]'aq):=a8 _;obtain⟨_,_,_,ht,_⟩:=IE ay;obtain⟨aZ,-⟩:=ht q _ af;have hm:=bC _ (List.getElem_mem aq);have Wi:∀l,l<q→wE e E l:=fun l h=>bH l (by omega) (by omega);obtain⟨G,rfl⟩:∃G,F=G+1:=⟨F-1,by omega⟩;by_cases aL:(e[q]'aq).o=23∨(e[q]'aq).o=24∨(e[q]'aq).o=26
  ·exact ahq v e E q G _ w ay af aZ Wi (by omega) dZ br aL
  ·exact ahp v e E q G _ w ay af aZ Wi (by omega) dZ br aL hm
theorem hl.parts {w:World} {v:Value} {E:dC} (h:hl w v E):∃cl aC cM aM cX a1 ef bN dk bJ,v= .agg #[E.dt,.slice cl E.ins.length aC,.slice cM E.ds.length aM,.slice cX E.ms.length a1,.slice ef E.mt.length bN,.slice dk E.tb.length bJ]∧hl w v E:=by
 obtain⟨cl,aC,cM,aM,cX,a1,ef,bN,dk,bJ,ay,-⟩:=h.open_;exact⟨cl,aC,cM,aM,cX,a1,ef,bN,dk,bJ,ay,h⟩
theorem Vz (ny bE:Value) (e:List cz) (E:dC) (w:World) (bM:kt w ny e) (aX:hl w bE E) (br:Mon w):Calls prog 57 #[ny,bE] w (fN (iy ca E e) w):=by
 obtain⟨bM,hlen,bC⟩:=bM;have cD:=hid (fun w1 (h:Kept w w1)=>ai8 ny e w1 (bM.kept h) (by omega));have yg:=bM;obtain⟨A,cap,rfl,-⟩:=bM.at_;obtain⟨cl,aC,cM,aM,cX,a1,ef,bN,dk,bJ,rfl,Pq⟩:=aX.parts;obtain⟨R,aw⟩:∃R,R=iy ca E e:=⟨_,rfl⟩;rw[←aw];unfold fN;by_cases ay:(cF e).2.2=0
 case neg=>
  unfold iy at aw;rw[if_pos ay]at aw;generalize ih:(cF e).2.2=sc at*;obtain⟨⟨eX,gw,dw⟩,rc⟩:=R;obtain⟨rfl,rfl,rfl,rfl⟩:=h7 aw;have hh:(rc !=0)=true:=by simpa using ay
  clear ay aw bM aX yg Pq;go_enter func57,ntmps57
  go_wp2_with (go_at_call 77;refine (cD.out _ (by with_reducible repeat first|exact .refl _|assumption|refine .drew ?_|refine .alloc ?_ _|refine .setCell ?_ (by (try simp only);omega) _|refine .trans ?_ ‹Kept _ _›)).mono ?_;rintro y w1 ⟨u,rfl,hu,ak⟩;obtain⟨cx,gQ⟩:=Kept.cells ak;have cb:=ak.size;(try simp at cb))
  exact bodyPost_ret (v:= .tuple #[.agg #[(),(),()],rc]) (by simp[results,results57,go_sem, *]) rfl ⟨rfl,(by with_reducible repeat first|exact .refl _|assumption|refine .drew ?_|refine .alloc ?_ _|refine .setCell ?_ (by (try simp only);omega) _|refine .trans ?_ ‹Kept _ _›)⟩
 case pos=>
  unfold iy at aw;rw[if_neg (by rw[ay];simp)]at aw;obtain⟨aj,zU,-⟩:=IE ay;have j9:(1:Int)≤e.length:=by omega
  have ke:(e.length:Int)≤48:=by omega
  have bI:Hid (∀(v:Value) (w1:World),Kept w w1→tg w1 v e (cF e).1 E→Calls prog 78 #[v,.int .i64 ((e.length:Int)-1)] w1 (fN R w1)):=by
   refine hid fun v w1 aa dZ=> ?_;have az:((e.length:Int)-1)=((e.length-1:Nat):Int):=by omega
   rw[aw,az];exact aho e E ay (fun x af=>bC x af) e.length (e.length-1) (by omega) (by omega) e.length (by omega) v w1 dZ (br.kept aa)
  have kP:=hid (fun (w1:World) (u:Value) (aa:Kept w w1) (hu:gV w1 k3 1 u (cF e).1)=>(⟨_,_,cl,aC,cM,aM,cX,a1,ef,bN,dk,bJ,rfl,yg.kept aa,hu,Pq.kept aa⟩:tg w1 (.agg #[.slice A e.length cap,u,E.dt,.slice cl E.ins.length aC,.slice cM E.ds.length aM,.slice cX E.ms.length a1,.slice ef E.mt.length bN,.slice dk E.tb.length bJ]) e (cF e).1 E));obtain⟨⟨eX,gw,dw⟩,rc⟩:=R;unfold fN at bI;rw[ay]at cD;have Bl:=hid (fun (w1:World) (u:Value) (hu:gV w1 k3 1 u (cF e).1)=>CH hu);generalize (cF e).1=di at*;clear aw ay aj zU bC hlen bM aX yg Pq;generalize e.length=n at*;go_enter func57,ntmps57
  go_upto_region 1 with fail
  generalize ar:(w.alloc _).alloc _=W at*;obtain⟨aF,a_,aS⟩:=Kept.a6 ar;clear ar;go_upto_region 2 with (go_at_call 77;refine (cD.out _ (by with_reducible repeat first|exact .refl _|assumption|refine .drew ?_|refine .alloc ?_ _|refine .setCell ?_ (by (try simp only);omega) _|refine .trans ?_ ‹Kept _ _›)).mono ?_;rintro y w1 ⟨u,rfl,hu,ak⟩)
  obtain⟨qp,ly,rfl,-⟩:=Bl.out _ _ hu;have hJ:=a_.kept ak;have fc:=aS.kept ak;have bB:=aF.trans ak;have tm:=hid (bI.out _ _ bB (kP.out _ _ bB hu));obtain⟨dL,cA⟩:=hJ.p;obtain⟨dq,a7,RD⟩:=fc.q;clear a_ aS hu;go_wp2_with (go_at_call 78;refine tm.out.mono ?_;rintro y w2 ⟨rfl,a'⟩;have cr:=fc.kept a';have d1c:=cr.cell;have OK:=cr.frozen;have OL:=cr.lt)
  have Z:=(((cr.aP 0 eX).aP 1 gw).aP 2 dw).cell;exact bodyPost_ret (v:= .tuple #[.agg #[eX,gw,dw],rc]) (by simp[results,results57,go_sem,Z]) rfl ⟨rfl,(by with_reducible repeat first|exact .refl _|assumption|refine .drew ?_|refine .alloc ?_ _|refine .setCell ?_ (by (try simp only);omega) _|refine .trans ?_ ‹Kept _ _›)⟩
def ml (nb:List Bool) (d:Int):Bool:=nb[d.toNat]?.getD false
noncomputable def iL (Lf:gm) (E:dC) (rs:List bf) (nb:List Bool):List Int→List bg→List bg×Int
 |[],ds=>(ds,0)
 |d::r,ds=>if ml nb d=false then iL Lf E rs nb r ds
  else if (hH Lf {E with ds:=ds} rs d).2.2.1≠0 then (ds,(hH Lf {E with ds:=ds} rs d).2.2.1)
  else iL Lf E rs nb r (ds.set d.toNat (hH Lf {E with ds:=ds} rs d).1)
def AY (n:Nat) (rs:List bf) (d e:Int):Prop:=(0≤e∧e<n)∧∃r∈rs,r.bK=d∧(e∈i' r.g∨e∈i' r.v)
theorem ad9 {n:Nat} {rs:List bf} {d:Nat} (av:d<n) {e:Int}:e∈(gg n rs)[d]?.getD []↔AY n rs d e:=by
 rw[Zr av];unfold AY;constructor
 ·rintro⟨r,I,U,ae⟩;exact⟨(LA.1 ae).1,r,I,U,(LA.1 ae).2⟩
 ·rintro⟨h,r,I,U,ae⟩;exact⟨r,I,U,LA.2 ⟨h,ae⟩⟩
structure N6 (n:Nat) (rs:List bf) (o:List Int):Prop where
 inr:gU n o
 c7:o.Nodup
 dep:∀(p s:List Int) (d:Int),o=p++d::s→∀e,AY n rs d e→e∈p
theorem Zs {l:List cz} {x:cz} (af:x∈l) (et:x.o=8):x.n∈i' l:=by
 unfold i';exact List.mem_map.2 ⟨x,List.mem_filter.2 ⟨af,by simp[et]⟩,rfl⟩
theorem aaN {Lf:gm} {E:dC} {n:Nat} {rs:List bf} {d:Int} {ds BI:List bg} (aq:ds.length=n) (lO:BI.length=n) (h:∀e,AY n rs d e→ds[e.toNat]?=BI[e.toNat]?):
  hH Lf {E with ds:=ds} rs d=hH Lf {E with ds:=BI} rs d:=by
 have afe:∀x:Int,0≤x→¬x<n→ds[x.toNat]?=BI[x.toNat]?:=fun x aj I=>by
  rw[List.getElem?_eq_none (by omega),List.getElem?_eq_none (by omega)]
 have key:∀(r:bf),r∈rs→r.bK=d→∀x:Int,(x∈i' r.g∨x∈i' r.v)→0≤x→ds[x.toNat]?=BI[x.toNat]?:=fun r aH av x af aj=>by
  by_cases I:x<n
  ·exact h x ⟨⟨aj,I⟩,r,aH,av,af⟩
  ·exact afe x aj I
 refine ajb rfl (fun i r aE av=> ?_);have aH:=List.mem_of_getElem? aE;refine⟨⟨rfl,rfl,rfl,rfl,aq.trans lO.symm,rfl,fun x af et aj=>key r aH av _ (.inl (Zs af et)) aj,fun x _ _ _ _ j m k2 I U=> ?_⟩,⟨rfl,rfl,rfl,rfl,aq.trans lO.symm,rfl,fun x af et aj=>key r aH av _ (.inr (Zs af et)) aj,fun x _ _ _ _ j m k2 I U=> ?_⟩⟩
 all_goals
  simp only at I U;rw[I]at U;rw[Option.some.inj U]
structure Gm (Lf:gm) (E:dC) (n:Nat) (rs:List bf) (nb:List Bool) (V:List bg):Prop where
 len:V.length=n
 yes:∀d:Int,0≤d→d<n→ml nb d=true→(hH Lf {E with ds:=V} rs d).2.2.1=0∧V[d.toNat]?=some (hH Lf {E with ds:=V} rs d).1
 no:∀d:Int,0≤d→d<n→ml nb d=false→V[d.toNat]?=some v0
section
variable {Lf:gm} {E:dC} {n:Nat} {rs:List bf} {nb:List Bool} {o:List Int}
theorem aiw:∀(s:List Int) (ds:List bg),(iL Lf E rs nb s ds).1.length=ds.length:=by
 intro s;induction s with
 |nil=>intro ds;rfl
 |cons d s bH=>
  intro ds;unfold iL;split
  ·exact bH ds
  ·split
   ·rfl
   ·rw[bH,List.length_set]
theorem RT:∀(s:List Int) (ds:List bg) (k:Nat),(∀d∈s,d.toNat≠k)→(iL Lf E rs nb s ds).1[k]?=ds[k]?:=by
 intro s;induction s with
 |nil=>intro ds k _;rfl
 |cons d s bH=>
  intro ds k h;unfold iL;split
  ·exact bH ds k (fun x af=>h x (List.mem_cons_of_mem _ af))
  ·split
   ·rfl
   ·rw[bH _ k (fun x af=>h x (List.mem_cons_of_mem _ af)),List.getElem?_set_ne (h d (List.mem_cons_self ..))]
theorem toNat_ne {a b:Int} (aZ:0≤a) (J:0≤b) (h:a≠b):a.toNat≠b.toNat:=by omega
theorem ai3 (bl:N6 n rs o) (ht:∀d:Int,0≤d→d<n→d∈o) {V:List bg} (h:iL Lf E rs nb o (List.replicate n v0)=(V,0)):Gm Lf E n rs nb V:=by
 have dZ:V.length=n:=by
  have:=aiw (Lf:=Lf) (E:=E) (rs:=rs) (nb:=nb) o (List.replicate n v0);rw[h,List.length_replicate]at this;exact this
 have key:∀(s p:List Int) (ds:List bg),o=p++s→ds.length=n→iL Lf E rs nb s ds=(V,0)→(∀d∈s,ds[d.toNat]?=some v0)→
   ∀d∈s,(ml nb d=true→(hH Lf {E with ds:=V} rs d).2.2.1=0∧V[d.toNat]?=some (hH Lf {E with ds:=V} rs d).1)∧(ml nb d=false→V[d.toNat]?=some v0):=by
  intro s;induction s with
  |nil=>intro p ds _ _ _ _ d av;cases av
  |cons x s bH=>
   intro p ds aL aq aH ck d av;have kE:=bl.c7;rw[aL,List.nodup_append]at kE;obtain⟨-,Qd,Qe⟩:=kE;obtain⟨yu,rU⟩:=bl.inr x (by rw[aL];simp);have P6:∀y∈s,0≤y:=fun y db=>(bl.inr y (by rw[aL];simp[db])).1;have lq:∀y∈s,y.toNat≠x.toNat:=fun y db=>toNat_ne (P6 y db) yu (fun e=>(List.nodup_cons.1 Qd).1 (e▸db));have hps:∀e∈p,∀y∈x::s,y.toNat≠e.toNat:=fun e he y db=>toNat_ne (bl.inr y (by rw[aL];exact List.mem_append_right _ db)).1 (bl.inr e (by rw[aL];simp[he])).1 (fun a6=>Qe e he y db a6.symm);have qH:∀k:Nat,(∀y∈x::s,y.toNat≠k)→V[k]?=ds[k]?:=fun k aa=>by
    have:=RT (Lf:=Lf) (E:=E) (rs:=rs) (nb:=nb) (x::s) ds k aa;rw[aH]at this;exact this
   have df:hH Lf {E with ds:=V} rs x=hH Lf {E with ds:=ds} rs x:=aaN dZ aq (fun e he=>qH _ (hps e (bl.dep p s x aL e he)));unfold iL at aH;by_cases J:ml nb x=false
   ·rw[if_pos J]at aH;rcases List.mem_cons.1 av with rfl|av
    ·refine⟨fun h=>(by rw[J]at h;cases h),fun _=> ?_⟩;have:=RT (Lf:=Lf) (E:=E) (rs:=rs) (nb:=nb) s ds d.toNat lq;rw[aH]at this;rw[this];exact ck d (List.mem_cons_self ..)
    ·exact bH (p++[x]) ds (by rw[aL];simp) aq aH (fun y db=>ck y (List.mem_cons_of_mem _ db)) d av
   ·rw[if_neg J]at aH;by_cases ah:(hH Lf {E with ds:=ds} rs x).2.2.1≠0
    ·rw[if_pos ah]at aH;exact absurd (congrArg Prod.snd aH) ah
    ·rw[if_neg ah]at aH;rcases List.mem_cons.1 av with rfl|av
     ·refine⟨fun _=> ?_,fun h=>absurd h J⟩;have:=RT (Lf:=Lf) (E:=E) (rs:=rs) (nb:=nb) s (ds.set d.toNat (hH Lf {E with ds:=ds} rs d).1) d.toNat lq;rw[aH,List.getElem?_set_self (by omega)]at this;rw[df];exact⟨Decidable.not_not.1 ah,this⟩
     ·refine bH (p++[x]) _ (by rw[aL];simp) (by rw[List.length_set];exact aq) aH (fun y db=> ?_) d av;rw[List.getElem?_set_ne (fun e=>lq y db e.symm)];exact ck y (List.mem_cons_of_mem _ db)
 have aa:=key o [] (List.replicate n v0) rfl (List.length_replicate ..) h (fun d av=>by
  obtain⟨aj,I⟩:=bl.inr d av;rw[List.getElem?_replicate,if_pos (by omega)])
 exact⟨dZ,fun d aj I J=>(aa d (ht d aj I)).1 J,fun d aj I J=>(aa d (ht d aj I)).2 J⟩
theorem aix (bl:N6 n rs o) (ht:∀d:Int,0≤d→d<n→d∈o) {V:List bg} (bj:Gm Lf E n rs nb V):iL Lf E rs nb o (List.replicate n v0)=(V,0):=by
 have key:∀(s p:List Int) (ds:List bg),o=p++s→ds.length=n→(∀d∈p,ds[d.toNat]?=V[d.toNat]?)→(∀d∈s,ds[d.toNat]?=some v0)→iL Lf E rs nb s ds=(V,0):=by
  intro s;induction s with
  |nil=>
   intro p ds aL aq hp _;rw[iL];congr 1;apply List.ext_getElem?;intro k;by_cases aa:k<n
   ·have hm:=ht (k:Int) (by omega) (by omega);rw[aL,List.append_nil]at hm;exact hp (k:Int) hm
   ·rw[List.getElem?_eq_none (by omega),List.getElem?_eq_none (by have:=bj.len;omega)]
  |cons x s bH=>
   intro p ds aL aq hp ck;have kE:=bl.c7;rw[aL,List.nodup_append]at kE;obtain⟨-,Qd,Qe⟩:=kE;obtain⟨yu,rU⟩:=bl.inr x (by rw[aL];simp);have P6:∀y∈s,0≤y:=fun y db=>(bl.inr y (by rw[aL];simp[db])).1;have lq:∀y∈s,y.toNat≠x.toNat:=fun y db=>toNat_ne (P6 y db) yu (fun e=>(List.nodup_cons.1 Qd).1 (e▸db));have df:hH Lf {E with ds:=ds} rs x=hH Lf {E with ds:=V} rs x:=aaN aq bj.len (fun e he=>hp e (bl.dep p s x aL e he));unfold iL;by_cases J:ml nb x=false
   ·rw[if_pos J];refine bH (p++[x]) ds (by rw[aL];simp) aq (fun d av=> ?_) (fun y db=>ck y (List.mem_cons_of_mem _ db));rcases List.mem_append.1 av with av|av
    ·exact hp d av
    ·rw[List.mem_singleton]at av;subst av;rw[bj.no d yu rU J];exact ck d (List.mem_cons_self ..)
   ·rw[if_neg J];have KT:ml nb x=true:=by simpa using J
    obtain⟨Lr,hy2⟩:=bj.yes x yu rU KT;rw[df,if_neg (by rw[Lr];simp)];refine bH (p++[x]) _ (by rw[aL];simp) (by rw[List.length_set];exact aq) (fun d av=> ?_) (fun y db=> ?_)
    ·rcases List.mem_append.1 av with av|av
     ·rw[List.getElem?_set_ne (toNat_ne yu (bl.inr d (by rw[aL];simp[av])).1 (fun e=>Qe d av x (List.mem_cons_self ..) e.symm))];exact hp d av
     ·rw[List.mem_singleton]at av;subst av;rw[List.getElem?_set_self (by omega),hy2]
    ·rw[List.getElem?_set_ne (fun e=>lq y db e.symm)];exact ck y (List.mem_cons_of_mem _ db)
 exact key o [] _ rfl (List.length_replicate ..) (fun d av=>by cases av) (fun d av=>by
  obtain⟨aj,I⟩:=bl.inr d av;rw[List.getElem?_replicate,if_pos (by omega)])
end
theorem Gm.ad2 {Lf:gm} {E:dC} {n:Nat} {A B:List bf} {nb:List Bool} {V:List bg} (h:Gm Lf E n A nb V) (hC:∀d:Int,0≤d→d<n→ml nb d=true→kM A B d):Gm Lf E n B nb V:=by
 refine⟨h.len,fun d aj I J=> ?_,h.no⟩;obtain⟨U,ae⟩:=h.yes d aj I J;obtain⟨aJ,bp⟩:=(hC d aj I J).step U;exact⟨aJ,by rw[bp];exact ae⟩
end Go.Proofs.YtobpgndkciofhaaGreatDoor
