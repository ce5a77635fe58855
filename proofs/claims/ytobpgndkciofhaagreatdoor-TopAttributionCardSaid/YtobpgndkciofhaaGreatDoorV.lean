import Derived.Test.YtobpgndkciofhaaGreatDoorM
import Derived.Test.YtobpgndkciofhaaGreatDoorU
set_option linter.all false
namespace Go.Proofs.YtobpgndkciofhaaGreatDoor
open Go.RowKit Go.Proofs.Tryz
open Go.Lib (hid)
set_option maxRecDepth 100000
set_option maxHeartbeats 16000000
theorem zP {n:Nat} {rs:List bf} {l:List Int} (h:l∈gg n rs):l.Nodup∧gU n l:=by
 obtain⟨d,av⟩:=List.getElem?_of_mem h;have iV:d<n:=by have:=(b8 av).1;rwa [BH]at this
 refine⟨?_,fun e he=> ?_⟩
 ·unfold gg at h;obtain⟨z,_,rfl⟩:=List.mem_map.1 h;exact (R6 z).2.imp (fun h e=>by omega)
 ·have:e∈(gg n rs)[d]?.getD []:=by rw[av];exact he
  obtain⟨r,_,_,U⟩:=(Zr iV).1 this;exact (LA.1 U).1
theorem BG (n:Nat) (rs:List bf) (d:Int):gU n ((gg n rs)[d.toNat]?.getD []):=by
 cases ai:(gg n rs)[d.toNat]? with
 |none=>exact fun e he=>by cases he
 |some l=>exact (zP (List.mem_of_getElem? ai)).2
theorem lf.bF {w:World} {B G:Nat} {us:List Value} {ls:List (List Int)} (h:lf w B G us ls) (aq:ls.length≤1000):MO w (.slice (some ⟨G,0,none⟩) ls.length ls.length) ls:=by
 refine⟨_,_,rfl,Nat.le_refl _,by omega,fun _=>⟨G,0,rfl,h.fD.lt,fun j x aB=> ?_⟩⟩;have B9:j<us.length:=by rw[h.len];exact (b8 aB).1
 have hu:us[j]?=some us[j]:=a8 B9;refine⟨us[j],?_,(h.own j _ _ hu aB).reads⟩;unfold ed;rw[h.fD.cell,Nat.zero_add,Nat.mul_one];simp
def fZ (n:Nat) (rs:List bf) (d:Int):List Int:=if 0≤d∧d<n then qY (gg n rs) n d else []
theorem LB {n:Nat} {rs:List bf} {d e:Int} (av:0≤d∧d<n):e∈fZ n rs d↔nN (gg n rs) d e:=by
 unfold fZ;rw[if_pos av,agY (BG n rs)]
theorem IH (v:Value) (x:bP) (d:Int) (w:World) (bj:iH w v x) (aw:pB x.rs) (aA:x.ds.length≤1000):Calls prog 34 #[v,d] w (p6 w.heap.size (fZ x.ds.length x.rs d) w):=by
 have dW:=hid (fun w1 (aa:Kept w w1)=>Oc v x w1 (bj.kept aa) aw aA);obtain⟨bo,b6,bA,rfl,bC,b',nn⟩:=bj;obtain⟨gN,gS,rfl,-⟩:=bC;obtain⟨fo,fS,rfl,-⟩:=b';obtain⟨eC,rc,rfl,-⟩:=nn;have wy:=hid (fun (w1 w2:World) (G:Nat) (us:List Value) (av:0≤d∧d<x.ds.length) (EH:lf w1 w.heap.size G us (gg x.ds.length x.rs)) (aa:Kept w1 w2)=>(by
  have aq:=BH x.ds.length x.rs;have I:=(EH.kept aa).bF (by omega);rw[aq]at I;exact aag _ (gg x.ds.length x.rs) x.ds.length d w2 I aq (BG _ _) av aA (fun l aq=>by
   obtain⟨g1,g2⟩:=zP aq;have:=vQ _ _ g1 g2;omega):Calls prog 51 #[.slice (some ⟨G,0,none⟩) x.ds.length x.ds.length,d] w2 (p6 w2.heap.size (qY (gg x.ds.length x.rs) x.ds.length d) w2)))
 obtain⟨T,bl⟩:∃T,T=fZ x.ds.length x.rs d:=⟨_,rfl⟩;rw[←bl];have ch:=hid bl;have bq:=hid (show∀w1:World,T=[]→Kept w w1→p6 w.heap.size T w (.returned aR) w1 from fun w1 h aa=>⟨_,rfl,by rw[h];exact World.ownsRow_nil _ _ _ _,aa⟩);have oz:(x.ds.length:Int)≤1000:=by omega
 generalize x.ds.length=n at*;generalize x.ins.length=s3 at*;generalize x.rs.length=Rt at*;generalize x.rs=rs at*;clear bl aw;by_cases aj:d<0
 ·have cv:=hid (show T=[] by rw[ch.out];unfold fZ;rw[if_neg (by omega)]);go_enter func34,ntmps34
  go_wp2_with fail
  go_ret;exact bq.out _ cv.out (by with_reducible repeat first|exact .refl _|assumption|refine .drew ?_|refine .alloc ?_ _|refine .setCell ?_ (by (try simp only);omega) _|refine .trans ?_ ‹Kept _ _›)
 by_cases I:(n:Int)≤d
 ·have cv:=hid (show T=[] by rw[ch.out];unfold fZ;rw[if_neg (by omega)]);have U:0≤d:=by omega
  go_enter func34,ntmps34
  go_wp2_with fail
  go_ret;exact bq.out _ cv.out (by with_reducible repeat first|exact .refl _|assumption|refine .drew ?_|refine .alloc ?_ _|refine .setCell ?_ (by (try simp only);omega) _|refine .trans ?_ ‹Kept _ _›)
 have U:0≤d:=by omega
 have ae:d<n:=by omega
 have cv:=hid (show qY (gg n rs) n d=T by rw[ch.out];unfold fZ;rw[if_pos ⟨U,ae⟩]);go_enter func34,ntmps34
 go_upto_region 3 with fail
 generalize ar:w.alloc _=W at*;obtain⟨aF,a_⟩:=Kept.az ar;clear ar;obtain⟨dL,cA⟩:=a_.p;have oO:=hid (dW.out W aF);go_wp2_with (first|(go_at_call 52;refine oO.out.mono ?_;rintro e w1 ⟨G,us,rfl,g1,g2,g3⟩;have dO:=hid (And.intro g1 (And.intro g2 g3));clear g1 g2 g3)|(go_at_call 51;refine (wy.out _ _ _ _ ⟨U,ae⟩ (lf.low dO.out.1 aF.size) (aQ _)).mono ?_;rintro e w2 ⟨u,rfl,aO,aN⟩;have bz:=hid (And.intro aO aN);clear aO aN))
 go_ret;exact⟨_,rfl,by rw[←cv.out];exact cn.low bz.out.1 (Nat.le_trans aF.size dO.out.2.2.size),aF.trans (dO.out.2.2.trans bz.out.2)⟩
def mh (l:List Int) (s:List Bool):List Bool:=l.foldl (fun s e=>s.set e.toNat true) s
theorem Lz:∀(l:List Int) (s:List Bool),(mh l s).length=s.length:=by
 intro l;induction l with
 |nil=>intro s;rfl
 |cons e l bH=>intro s;exact (bH _).trans (List.length_set ..)
theorem aaJ:∀(l:List Int) (s:List Bool),gU s.length l→∀f:Int,0≤f→(dG (mh l s) f=true↔dG s f=true∨f∈l):=by
 intro l;induction l with
 |nil=>intro s _ f _;simp[mh]
 |cons e l bH=>
  intro s h f bO;have he:=h e (List.mem_cons_self ..);have:=bH (s.set e.toNat true) (by rw[List.length_set];exact fun x af=>h x (List.mem_cons_of_mem _ af)) f bO;rw[Fj he bO]at this;refine this.trans ?_;rw[List.mem_cons,or_assoc]
theorem agS {l:List Int} {j:Nat} {e:Int} (h:l[j]?=some e) (s:List Bool):mh (l.drop j) s=mh (l.drop (j+1)) (s.set e.toNat true):=by
 have aB:=(b8 h).1;rw[List.drop_eq_getElem_cons aB];obtain⟨_,rfl⟩:=b8 h;rfl
def k8 (n:Nat) (rs:List bf) (d:Int):List Bool:=mh (fZ n rs d) ((List.replicate n false).set d.toNat true)
theorem IN (n:Nat) (rs:List bf) (d:Int):(k8 n rs d).length=n:=by unfold k8;rw[Lz,List.length_set,List.length_replicate]
theorem CQ (n:Nat) (rs:List bf) (d:Int):gU n (fZ n rs d):=by
 intro e he;by_cases av:0≤d∧d<n
 ·exact ((LB av).1 he).ES (BG n rs)
 ·unfold fZ at he;rw[if_neg av]at he;cases he
theorem Ml {n:Nat} {rs:List bf} {d:Int} (av:0≤d∧d<n) {f:Int} (bO:0≤f):dG (k8 n rs d) f=true↔f=d∨f∈fZ n rs d:=by
 unfold k8;rw[aaJ _ _ (by rw[List.length_set,List.length_replicate];exact CQ n rs d) f bO,Fj (by rw[List.length_replicate];exact av) bO,Mk];simp
def nA (n:Nat) (S:List Bool) (r:bf):List Int:=if 0≤r.bK∧r.bK<n∧dG S r.bK=true then fl (kl r.g)++fl (kl r.v)else []
def hG (n:Nat) (rs:List bf) (d:Int):List Int:=if 0≤d∧d<n then fl (rs.flatMap (nA n (k8 n rs d)))else []
theorem Re {n:Nat} {rs:List bf} {d:Int} (av:0≤d∧d<n) {e:Int}:e∈hG n rs d↔∃r∈rs,(0≤r.bK∧r.bK<n)∧(r.bK=d∨r.bK∈fZ n rs d)∧(e∈kl r.g∨e∈kl r.v):=by
 unfold hG;rw[if_pos av,E4,List.mem_flatMap];refine exists_congr fun r=>and_congr Iff.rfl ?_;unfold nA;by_cases aj:0≤r.bK∧r.bK<n
 ·rw[←Ml av aj.1];by_cases I:dG (k8 n rs d) r.bK=true
  ·rw[if_pos ⟨aj.1,aj.2,I⟩,List.mem_append,E4,E4];simp[aj,I]
  ·rw[if_neg (fun h=>I h.2.2)];simp[I]
 ·rw[if_neg (fun h=>aj ⟨h.1,h.2.1⟩)];simp[aj]
theorem ZR {n:Nat} {S:List Bool} {r:bf} (I:r.g.length≤48) (U:r.v.length≤48):(nA n S r).length≤96:=by
 unfold nA;split
 ·rw[List.length_append];have cE:=yQ (kl r.g);have a2:=yQ (kl r.v);have bY:(kl r.g).length≤r.g.length:=by unfold kl;rw[List.length_map];exact List.length_filter_le _ _
  have bc:(kl r.v).length≤r.v.length:=by unfold kl;rw[List.length_map];exact List.length_filter_le _ _
  omega
 ·exact Nat.zero_le _
theorem VE {rs:List bf} {n:Nat} {S:List Bool} (h:∀r∈rs,r.g.length≤48∧r.v.length≤48):∀i,i≤rs.length→((rs.take i).flatMap (nA n S)).length≤96*i:=by
 intro i;induction i with
 |zero=>intro _;simp
 |succ i bH=>
  intro aE;have ai:rs[i]?=some (rs[i]'aE):=a8 _;rw[List.take_add_one,ai,List.flatMap_append,List.length_append];have I:=bH (by omega);have U:=h _ (List.mem_of_getElem? ai);have ae:=ZR (n:=n) (S:=S) U.1 U.2;simp only[Option.toList_some,List.flatMap_cons,List.flatMap_nil,List.append_nil];omega
theorem s6 {w:World} {B g:Nat} {v:Value} {l:List Int} (h:cn w B v l) (e:v.ownBlock=some g):B≤g:=by
 rcases h.2 with⟨U,_⟩|⟨hR,cap,cur,ay,J,ai,ae⟩
 ·rw[U]at e;cases e
 ·rw[ay]at e;obtain rfl:hR=g:=Option.some.inj e;exact J
theorem Two.kept {w cw wr:World} {G:Nat} (h:Two cw wr none G) (aa:Kept w cw) (ar:w.heap.size≤G):Kept w wr:=
 ⟨h.os.trans aa.os,h.tape.trans aa.tape,h.output.trans aa.output,Nat.le_trans aa.size h.size,fun b J=>(h.block b (bd J aa.size) (by omega) (by simp)).trans (aa.block b J)⟩
theorem Two.cell {w wr:World} {G:Nat} (h:Two w wr none G) {b o:Nat} (J:b<w.heap.size) (bQ:b≠G):wr.cell? ⟨b,o,none⟩=w.cell? ⟨b,o,none⟩:=by
 unfold World.cell?;rw[h.block b J bQ (by simp)]
theorem Fv {ops:Array Oper} {rest:List Oper} {o:Oper} {a:Act} {Q:Exit→Act→World→Prop} {w:World} (P3:o.guard=none) (s x:Operand)
  (aL:o.op= .call {callee:= .builtin .append,args:=#[s,x],argTypes:=#[92,92]}) {base:Nat} {v:Value} {xs:List Int} (ax:a.eval s=v) (ar:cn w base v xs) {q2:Value} {bh:List Int} (af:a.eval x=q2) (vt:fC w q2 bh)
  (aq:xs.length+bh.length≤2000000) (J:base≤w.heap.size) (h:∀v' w',cn w' base v' (xs++bh)→w.grownBy w' v.ownBlock→(v'.ownBlock=v.ownBlock∨v'.ownBlock=some w.heap.size)→wpList prog ops Q rest (a.put o.dst v') w'):wpList prog ops Q (o::rest) a w:=
 wpList_plain P3 fun _ ab=>abn s x aL ax ar af vt aq J fun v' w' I U ae=>ab _ _ (h v' w' I U ae)
theorem cn.row {w:World} {B:Nat} {v:Value} {l:List Int} (h:cn w B v l):∃A cap,v= .slice A l.length cap∧(0<l.length→∃g,A=some ⟨g,0,none⟩∧B≤g∧g<w.heap.size∧∀(j:Nat) x,l[j]?=some x→w.cell? ⟨g,j,none⟩=some (.int .i64 x)):=by
 obtain⟨A,cap,rfl⟩:=il h;refine⟨A,cap,rfl,fun hp=> ?_⟩;rcases h.2 with⟨_,aj⟩|⟨g,oq,cur,aj,ae,aJ,bp,eJ,kc,et⟩
 ·omega
 ·simp only[Value.slice.injEq]at aj;obtain⟨rfl,-,rfl⟩:=aj;refine⟨g,rfl,ae,(Array.getElem?_eq_some_iff.1 aJ).1,fun j x aB=> ?_⟩;rw[cell_of_row w g j cur _ _ aJ];have Hy:=(b8 aB).1;have:=congrArg (fun q=>q[j]?) et;simp only[Nat.mul_one]at this;rw[List.getElem?_take_of_lt Hy,List.getElem?_map,aB,Array.getElem?_toList]at this;exact this
theorem Zq (v:Value) (x:bP) (d:Int) (w:World) (bj:iH w v x) (aw:pB x.rs) (aA:x.ds.length≤1000):Calls prog 35 #[v,d] w (p6 w.heap.size (hG x.ds.length x.rs d) w):=by
 have dW:=hid (fun w1 (aa:Kept w w1)=>Oc v x w1 (bj.kept aa) aw aA);obtain⟨bo,b6,bA,rfl,bC,b',nn⟩:=bj;obtain⟨gN,gS,rfl,-⟩:=bC;obtain⟨fo,fS,rfl,-⟩:=b';obtain⟨eC,rc,rfl,-,ud,oA⟩:=nn;obtain⟨n0,ig⟩:=aw;have wy:=hid (fun (w1 w2:World) (G:Nat) (us:List Value) (av:0≤d∧d<x.ds.length) (EH:lf w1 w.heap.size G us (gg x.ds.length x.rs)) (aa:Kept w1 w2)=>(by
  have aq:=BH x.ds.length x.rs;have I:=(EH.kept aa).bF (by omega);rw[aq]at I;exact aag _ (gg x.ds.length x.rs) x.ds.length d w2 I aq (BG _ _) av aA (fun l aq=>by
   obtain⟨g1,g2⟩:=zP aq;have:=vQ _ _ g1 g2;omega):Calls prog 51 #[.slice (some ⟨G,0,none⟩) x.ds.length x.ds.length,d] w2 (p6 w2.heap.size (qY (gg x.ds.length x.rs) x.ds.length d) w2)))
 obtain⟨T,bl⟩:∃T,T=hG x.ds.length x.rs d:=⟨_,rfl⟩;rw[←bl];have ch:=hid bl;have bq:=hid (show∀w1:World,T=[]→Kept w w1→p6 w.heap.size T w (.returned aR) w1 from fun w1 h aa=>⟨_,rfl,by rw[h];exact World.ownsRow_nil _ _ _ _,aa⟩);have oz:(x.ds.length:Int)≤1000:=by omega
 have lb:=hid oA;have iu:=hid ig;generalize x.ds.length=n at*;generalize x.ins.length=s3 at*;generalize x.rs=rs at*;obtain⟨i0,aE,fy,cb,eu⟩:=info_parts Tryz.Ls;clear bl oA ig;by_cases aj:d<0
 ·have cv:=hid (show T=[] by rw[ch.out];unfold hG;rw[if_neg (by omega)]);go_enter func35,ntmps35
  go_wp2_with fail
  go_ret;exact bq.out _ cv.out (by with_reducible repeat first|exact .refl _|assumption|refine .drew ?_|refine .alloc ?_ _|refine .setCell ?_ (by (try simp only);omega) _|refine .trans ?_ ‹Kept _ _›)
 by_cases I:(n:Int)≤d
 ·have cv:=hid (show T=[] by rw[ch.out];unfold hG;rw[if_neg (by omega)]);have U:0≤d:=by omega
  go_enter func35,ntmps35
  go_wp2_with fail
  go_ret;exact bq.out _ cv.out (by with_reducible repeat first|exact .refl _|assumption|refine .drew ?_|refine .alloc ?_ _|refine .setCell ?_ (by (try simp only);omega) _|refine .trans ?_ ‹Kept _ _›)
 obtain⟨dj,rfl⟩:∃dj:Nat,d=dj:=⟨d.toNat,by omega⟩;have U:(0:Int)≤dj:=by omega
 have ae:(dj:Int)<n:=by omega
 have iV:dj<n:=by omega
 have cv:=hid (show fl (rs.flatMap (nA n (k8 n rs dj)))=T by rw[ch.out];unfold hG;rw[if_pos ⟨U,ae⟩]);have qm:=hid (show mh (qY (gg n rs) n dj) ((List.replicate n false).set dj true)=k8 n rs dj by unfold k8 fZ;rw[if_pos ⟨U,ae⟩,Int.toNat_natCast]);have nJ:=hid (show gU n (qY (gg n rs) n dj) by have:=CQ n rs dj;unfold fZ at this;rwa [if_pos ⟨U,ae⟩]at this);have oa:=hid (IN n rs dj);have wz:=hid (show (qY (gg n rs) n dj).length≤n by unfold qY;rw[List.length_map];exact Nat.le_trans (List.length_filter_le _ _) (by rw[List.length_range];exact Nat.le_refl _));generalize k8 n rs dj=S at*;generalize qY (gg n rs) n dj=lz at*;clear ch bq aj I;go_enter func35,ntmps35
 go_upto_region 3 with fail
 generalize ar:w.alloc _=W at*;obtain⟨aF,a_⟩:=Kept.az ar;clear ar;obtain⟨dL,cA⟩:=a_.p;have hGW:w.heap.size<W.heap.size:=cA;go_upto_region 4 with (at_make;refine wpList_make_full _ rfl _ _ 128 rfl W.heap.size 4 i0 (.bool false) 1 underlying128 aE fy cb _ _ _ _ n rfl rfl rfl rfl (by rw[eu];omega) (by unfold maxLen;omega) (Nat.le_refl _) ?_;intro w1 cR cd;have cp:=hid (Ia cR cd);clear cR cd)
 have aS:=cp.out.1;have aC:=aS.cell dj;rw[qu (b:=false) (by rw[List.getElem?_replicate,if_pos iV])]at aC;have f1:=aS.frozen dj;have a7:=aS.lt;have gl:=cp.out.2;clear dL cA;go_upto_region 5 with fail
 have aT:=aS.aP dj (.bool true);rw[x1]at aT;have bR:Kept W (w1.setCell ⟨W.heap.size,dj,none⟩ (.bool true)):=gl.setCell (p:=⟨W.heap.size,dj,none⟩) (Nat.le_refl _) _;have MP:=a_.kept bR;clear aC f1 a7 aS cp;generalize w1.setCell ⟨W.heap.size,dj,none⟩ (.bool true)=e8 at*;obtain⟨dR,bx⟩:=MP.p;have oO:=hid (dW.out e8 (aF.trans bR));go_upto_region 6 with (first|(go_at_call 52;refine oO.out.mono ?_;rintro e cw ⟨G,us,rfl,g1,g2,g3⟩;have dO:=hid (And.intro g1 (And.intro g2 g3));clear g1 g2 g3)|(go_at_call 51;refine (wy.out _ _ _ _ ⟨U,ae⟩ (lf.low dO.out.1 (Nat.le_trans aF.size bR.size)) (aQ _)).mono ?_;rintro e eA ⟨u,rfl,aO,aN⟩;obtain⟨AO,hj,rfl,pS⟩:=cn.row aO;have bz:=hid (And.intro pS aN);clear aO aN pS))
 have eO:Kept e8 eA:=dO.out.2.2.trans bz.out.2;have ec:=aT.kept eO;have rh:=hid bz.out.1;have hG3:W.heap.size<cw.heap.size:=bd aT.lt dO.out.2.2.size;have MQ:=MP.kept eO;have tF:=(aF.trans bR).trans eO;have Cp:lz.length≤8796093022208:=by
  have:=wz.out;omega
 clear dO bz dW oO wy dR bx aT MP;go_loopw [38] (fun y wr=>∃(j:Nat) (s:List Bool),y= .int .i64 j∧j≤lz.length∧ao wr W.heap.size 4 (iw s)∧s.length=n∧Two eA wr none W.heap.size∧mh (lz.drop j) s=S) (fun y _=>lz.length-(intOf y).toNat)
 case atStart=>exact⟨0,_,rfl,Nat.zero_le _,ec,by rw[List.length_set,List.length_replicate],Two.refl _ _ _,qm.out⟩
 case round=>
  obtain⟨j,s,rfl,aB,aU,ax,kB,aG⟩:=hrel;by_cases aD:j<lz.length
  ·obtain⟨g,rfl,e2,dT,l9⟩:=rh.out (by omega);have ai:lz[j]?=some lz[j]:=a8 aD;have gY:=nJ.out _ (List.mem_of_getElem? ai);rw[agS ai]at aG;have t0:=(kB.cell (o:=j) dT (by omega)).trans (l9 j _ ai);generalize lz[j]=c_ at*;obtain⟨bm,rfl⟩:∃bm:Nat,c_=bm:=⟨c_.toNat,by omega⟩;obtain⟨gY,az⟩:=gY;have nX:bm<s.length:=by omega
   have aC:=aU.cell bm;rw[qu (a8 nX)]at aC;have f1:=aU.frozen bm;have a7:=aU.lt;have hlg:=bd dT kB.size;have gu:(j:Int)<lz.length:=by omega
   rw[Int.toNat_natCast]at aG;have ib:=aU.aP bm (.bool true);rw[x1]at ib;have bn:=hid (And.intro ib (And.intro (kB.aP bm (.bool true)) (And.intro aG ax)));clear aU ib kB aG l9 ai ax;go_wp2_with fail
   go_roundw
   case rel=>exact⟨j+1,_,by go_num,aD,bn.out.1,by rw[List.length_set];exact bn.out.2.2.2,bn.out.2.1,bn.out.2.2.1⟩
   case measure=>simp[intOf];omega
  ·obtain rfl:j=lz.length:=by omega
   rw[List.drop_length]at aG;obtain rfl:s=S:=aG;have c6:¬((lz.length:Int)<lz.length):=by omega
   have uS:Kept w wr:=kB.kept tF (Nat.le_of_lt hGW);have Sw:ao wr w.heap.size 64 #[x.ag,x.ms,.slice gN s3 gS,.slice fo n fS,.slice eC rs.length rc]:=(kB.block _ MQ.lt (by omega) (by simp)).trans MQ;have cg:=hid aU;obtain⟨AD,dP⟩:=Sw.p;clear aU kB rh ec MQ tF eO a_;generalize wr=DJ at*;go_upto_region 12 with fail
   clear AD;go_loopw [8,49] (fun a y wr=>∃i:Nat,y= .int .i64 i∧i≤rs.length∧Kept DJ wr∧cn wr DJ.heap.size a ((rs.take i).flatMap (nA n s))) (fun _ y _=>rs.length-(intOf y).toNat)
   case atStart=>exact⟨0,rfl,Nat.zero_le _,aQ _,World.ownsRow_nil _ _ _ _⟩
   case round=>
    obtain⟨i,rfl,de,ab,da⟩:=hrel;by_cases aD:i<rs.length
    ·obtain⟨fz,ro,rfl,dm,iW⟩:=lb.out (by omega);have ai:rs[i]?=some (rs[i]'aD):=a8 _;have rM:=List.getElem_mem aD;obtain⟨⟨b5,-⟩,⟨aC,-⟩,⟨aM,-⟩,⟨a1,-⟩,⟨bN,-⟩,⟨bJ,-⟩,⟨nU,eQ,h4⟩,⟨n8,kv,mc⟩,⟨kx,-⟩⟩:=iW i _ ai;have HO:(rs.take (i+1)).flatMap (nA n s)=(rs.take i).flatMap (nA n s)++nA n s (rs[i]'aD):=by
      rw[List.take_add_one,ai,List.flatMap_append];simp
     have aeX:=VE (rs:=rs) (n:=n) (S:=s) iu.out i de;obtain⟨z8,Cq⟩:=iu.out _ rM;generalize rs[i]'aD=r at*;obtain⟨jg,gc,rfl,-⟩:=h4.1.at_;obtain⟨iS,gx,rfl,-⟩:=mc.1.at_;unfold ed at b5 aC aM a1 bN bJ eQ kv kx;have al:=uS.trans ab;have hJ:=al.ad dm b5;have fc:=al.ad dm aC;have cm:=al.ad dm aM;have dx:=al.ad dm a1;have qb:=al.ad dm bN;have FE:=al.ad dm bJ;have y6:=al.ad dm eQ;have uM:=al.ad dm kv;have oN:=al.ad dm kx;have X1:=bd dm al.size;have Xs:(i:Int)<rs.length:=by omega
     have dM:=hid da;have du:=hid ab;have mZ:=hid HO;have NG:=hid (fun (w1:World) (aa:Kept w w1)=>And.intro (L_ _ r.g w1 (h4.kept aa)) (L_ _ r.v w1 (mc.kept aa)));have fX:=hid al;clear b5 aC aM a1 bN bJ eQ kv kx h4 mc iW ai ab da HO al;go_upto_region 14 with fail
     generalize ar:wr.alloc _=Gq at*;obtain⟨bR,aT⟩:=Kept.az ar;clear ar;have SF:=(Sw.kept du.out).kept bR;have cC:=(cg.out.kept du.out).kept bR;have LY:=aT.cell;have S5:=hid aT;have ev:=aT.lt;obtain⟨yP,sl6⟩:=SF.p;clear hJ fc cm dx qb FE y6 uM oN;by_cases ll:r.bK<0
     ·have bq:=hid (show nA n s r=[] by unfold nA;rw[if_neg (by omega)]);go_wp2_with fail
      go_roundw
      case rel=>exact⟨i+1,by go_num,aD,du.out.trans bR,by rw[mZ.out,bq.out,List.append_nil];exact dM.out.kH bR⟩
      case measure=>simp[intOf];omega
     by_cases gB:(n:Int)≤r.bK
     ·have bq:=hid (show nA n s r=[] by unfold nA;rw[if_neg (by omega)]);have l8:0≤r.bK:=by omega
      go_wp2_with fail
      go_roundw
      case rel=>exact⟨i+1,by go_num,aD,du.out.trans bR,by rw[mZ.out,bq.out,List.append_nil];exact dM.out.kH bR⟩
      case measure=>simp[intOf];omega
     obtain⟨fn,z7⟩:∃fn:Nat,r.bK=fn:=⟨r.bK.toNat,by omega⟩;have Hr:fn<s.length:=by have:=oa.out;omega
     have dV:=cC.cell fn;rw[qu (a8 Hr)]at dV;have wl6:=cC.lt;have hfi:(fn:Int)<n:=by omega
     have iA:dG s r.bK=s[fn]:=by unfold dG;rw[z7,Int.toNat_natCast,a8 Hr];rfl
     have HZ0:=hid (show s[fn]=false→nA n s r=[]from fun h=>by unfold nA;rw[if_neg (by rw[iA,h];simp)]);have F6:=hid (show s[fn]=true→nA n s r=fl (kl r.g)++fl (kl r.v)from fun h=>by unfold nA;rw[if_pos ⟨by omega,by omega,by rw[iA,h]⟩]);generalize s[fn]=n7 at*;have XD:=ZR (n:=n) (S:=s) z8 Cq;rw[z7]at LY;clear iA ll gB aT SF cC
     cases n7
     ·have bq:=hid (HZ0.out rfl);go_wp2_with fail
      go_roundw
      case rel=>exact⟨i+1,by go_num,aD,du.out.trans bR,by rw[mZ.out,bq.out,List.append_nil];exact dM.out.kH bR⟩
      case measure=>simp[intOf];omega
     ·have bq:=hid (F6.out rfl);have mY:=hid (NG.out Gq (fX.out.trans bR)).1;have Bi:=hid (fun jT (aa:Kept Gq jT)=>(NG.out jT ((fX.out.trans bR).trans aa)).2);have wo:=hid (dM.out.kH bR);have C9:=hid (show ((rs.take i).flatMap (nA n s)).length≤96000 by omega);have C7:=hid (show (fl (kl r.g)).length+(fl (kl r.v)).length≤96 by have:=XD;rw[bq.out,List.length_append]at this;exact this);have y':=hid (show DJ.heap.size≤Gq.heap.size from Nat.le_trans du.out.size bR.size);clear XD aeX NG;go_upto_region 16 with (go_at_call 53;refine mY.out.mono ?_;rintro e jT ⟨v1,v2,v3,rfl,aO,aN,cK,dA⟩;have jh:=hid (And.intro cK.reads dA);clear aO aN cK dA)
      have lW:=S5.out.kept jh.out.2;obtain⟨RE,EY⟩:=lW.p;have HR4:=hid (Bi.out jT jh.out.2);clear LY lW;go_upto_region 17 with (go_at_call 53;refine HR4.out.mono ?_;rintro e ta ⟨ee,fW,mS,rfl,aO,aN,cK,dA⟩;have y7:=hid (And.intro cK dA);clear aO aN cK dA)
      have TH:=hid ((wo.out.kH jh.out.2).kH y7.out.2);have HI7:=hid (gV.kept jh.out.1 y7.out.2);have uP:=hid (((du.out.trans bR).trans jh.out.2).trans y7.out.2);clear RE;go_upto_region 18 with (at_builtin;refine Fv rfl (.tmp 86) (.tmp 87) rfl rfl TH.out rfl HI7.out (by have:=C9.out;have:=C7.out;omega) uP.out.size ?_;intro v9 hZ aO aN cK;have l0:=hid (And.intro aO (And.intro aN cK));clear aO aN cK)
      have hL:=hid (kg uP.out TH.out (Nat.le_refl _) l0.out.2.1);have HI8:=hid (y7.out.1.other l0.out.2.1 (fun g ai bb=>Nat.lt_irrefl _ (bd (E9 wo.out ai) (Nat.le_trans jh.out.2.size (s6 y7.out.1 bb)))));go_wp2_with (at_builtin;refine Fv rfl (.tmp 89) (.tmp 90) rfl rfl l0.out.1 rfl HI8.out.reads (by have:=C9.out;have:=C7.out;rw[List.length_append];omega) hL.out.size ?_;intro v10 w10 aO aN cK;have SR:=hid (And.intro aO aN);clear aO aN cK)
      have abI:=hid (kg hL.out l0.out.1 (Nat.le_refl _) SR.out.2);have aV:=hid (show cn w10 DJ.heap.size v10 ((rs.take (i+1)).flatMap (nA n s)) by rw[mZ.out,bq.out,←List.append_assoc];exact SR.out.1);go_roundw
      case rel=>exact⟨i+1,by go_num,aD,abI.out,aV.out⟩
      case measure=>simp[intOf];omega
    ·obtain rfl:i=rs.length:=by omega
     have Xs:¬((rs.length:Int)<rs.length):=by omega
     rw[List.take_length]at da;have oy:=VE (rs:=rs) (n:=n) (S:=s) iu.out rs.length (Nat.le_refl _);rw[List.take_length]at oy;have cD:=hid (aaK _ _ _ _ da (by omega));have dM:=hid da;have du:=hid ab;clear da ab oy;go_wp2_with (go_at_call 54;refine cD.out.mono ?_;rintro e jT ⟨u7,rfl,aO,aN,cK⟩;have jh:=hid (And.intro aO cK);clear aO aN cK)
     go_ret;exact⟨_,rfl,by rw[←cv.out];exact cn.low jh.out.1 uS.size,uS.trans (kg du.out dM.out (Nat.le_refl _) jh.out.2)⟩
def b1 (l:List Nat):List Int:=l.map fun i:Nat=>(i:Int)
theorem mj (l:List Nat):(b1 l).length=l.length:=List.length_map ..
theorem LH {l:List Nat} {j k:Nat} (h:l[j]?=some k):(b1 l)[j]?=some (k:Int):=by unfold b1;rw[List.getElem?_map,h];rfl
theorem Rj (l:List Nat) (k:Nat):b1 (l++[k])=b1 l++[(k:Int)]:=by unfold b1;rw[List.map_append];rfl
theorem ac6 (p:Int):∀(l:List Int) (i:Nat),(qx p l i).length≤l.length:=by
 intro l;induction l with
 |nil=>intro i;exact Nat.le_refl _
 |cons x l bH=>
  intro i;rw[qx];have:=bH (i+1);split
  ·simp only[List.length_cons];omega
  ·simp only[List.length_cons];omega
theorem adm (v:Value) (par:List Int) (p:Int) (w:World) (dJ:fC w v par) (aq:par.length≤1000):Calls prog 157 #[v,p] w (p6 w.heap.size (b1 (hq par p)) w):=by
 obtain⟨ij,hS,hT,hU,hV⟩:=info_parts Tryz.rX;obtain⟨A,cap,rfl,af⟩:=dJ.at_;obtain⟨C,hC⟩:∃C,C=hq par p:=⟨_,rfl⟩;have bI:=hid (show qx p (par.drop 0) 0=C by rw[hC];rfl);rw[←hC];obtain⟨n,aA⟩:∃n,n=par.length:=⟨_,rfl⟩;rw[←aA]at af aq⊢;have bk:=hid aA;have bn:=hid af;clear hC aA dJ af;go_enter func157,ntmps157
 go_upto_region 3 with fail
 go_loopw [5,10] (fun a y wr=>∃(i:Nat) (l:List Nat),y= .int .i64 i∧i≤n∧Kept w wr∧cn wr w.heap.size a (b1 l)∧l.length≤i∧l++qx p (par.drop i) i=C) (fun _ y _=>n-(intOf y).toNat)
 case atStart=>exact⟨0,[],rfl,Nat.zero_le _,aQ _,World.ownsRow_nil _ _ _ _,Nat.le_refl _,bI.out⟩
 case round=>
  obtain⟨i,l,rfl,de,ab,da,t',aG⟩:=hrel;by_cases aD:i<n
  ·obtain⟨b,o,rfl,J,ah⟩:=bn.out (by omega);have ai:par[i]?=some (par[i]'(by have:=bk.out;omega)):=a8 _;have b5:=ah i _ ai;rw[List.drop_eq_getElem_cons (by have:=bk.out;omega),qx]at aG;generalize par[i]'(by have:=bk.out;omega)=q at*;have hJ:=ab.ad J b5;have oW:=bd J ab.size;have c6:(i:Int)<n:=by omega
   have dM:=hid da;have du:=hid ab;have n2:=ab.size;have iQ:=hid t';by_cases au:q=p
   ·rw[if_pos au]at aG;have aI:=hid (show (l++[i])++qx p (par.drop (i+1)) (i+1)=C by rw[List.append_assoc];exact aG);subst au;clear aG da ab ah ai b5;go_wp2_with (at_builtin;refine wpList_append_own_at _ rfl (.tmp 18) (.tmp 20) 92 rfl w.heap.size 3 ij () 1 8 underlying92 hS hT hU hV rfl (by decide) _ (b1 l).length ((b1 l).map (.int .i64)) rfl (World.ownsRow.alloc dM.out _) ⟨wr.heap.size,0,none⟩ 1 1 [.int .i64 i] rfl rfl (cell_one_new _ _ _) (nz i) (by rw[mj];unfold maxLen;omega) (by rw[mj];omega) (by simp;omega) ?_;intro v6 dV aO aN _ dA;have eN:=hid (And.intro (r9 aO) aN);clear aO aN dA)
    have aV:=hid (And.intro (kg (du.out.alloc _) (World.ownsRow.alloc dM.out _) (Nat.le_refl _) eN.out.2) (show cn dV w.heap.size v6 (b1 (l++[i])) by rw[Rj];exact eN.out.1));go_roundw
    case rel=>exact⟨i+1,l++[i],by go_num,aD,aV.out.1,aV.out.2,by rw[List.length_append,List.length_singleton];have:=iQ.out;omega,aI.out⟩
    case measure=>simp[intOf];omega
   ·rw[if_neg au]at aG;have aI:=hid aG;clear aG da ab ah ai b5;go_wp2_with fail
    go_roundw
    case rel=>exact⟨i+1,l,by go_num,aD,du.out,dM.out,by have:=iQ.out;omega,aI.out⟩
    case measure=>simp[intOf];omega
  ·obtain rfl:i=n:=by omega
   have c6:¬((i:Int)<i):=by omega
   rw[List.drop_eq_nil_of_le (by have:=bk.out;omega),qx,List.append_nil]at aG;have aV:=hid (And.intro da (And.intro ab aG));clear da ab aG;go_wp2_with fail
   go_ret;exact⟨_,rfl,by rw[←aV.out.2.2];exact aV.out.1,aV.out.2.1⟩
def Gp (w:World) (v:Value) (par pri o:List Int):Prop:=∃eK j' fk,v= .agg #[eK,j',fk]∧fC w eK par∧fC w j' pri∧fC w fk o
theorem Gp.kept {w w':World} {v:Value} {par pri o:List Int} (h:Gp w v par pri o) (aa:Kept w w'):Gp w' v par pri o:=by
 obtain⟨eK,j',fk,ay,I,U,ae⟩:=h;exact⟨eK,j',fk,ay,I.kept aa,U.kept aa,ae.kept aa⟩
def fx (l:List Int) (i:Nat):Int:=l[i]?.getD 0
theorem aex {α β:Type} (f:α→β→α) {l:List β} {j:Nat} {x:β} (h:l[j]?=some x) (a:α):(l.drop j).foldl f a=(l.drop (j+1)).foldl f (f a x):=by
 have aB:=(b8 h).1;rw[List.drop_eq_getElem_cons aB];obtain⟨_,rfl⟩:=b8 h;rfl
theorem OA {par:List Int} {p:Int} {c:Nat} (h:c∈hq par p):c<par.length:=(b8 (vm.1 h)).1
theorem wT {l:List Int} {i:Nat} (h:i<l.length):l[i]?=some (fx l i):=by
 unfold fx;rw[a8 h];rfl
theorem ahN {w:World} {B g m cap:Nat} {l:List Int} (h:cn w B (.slice (some ⟨g,0,none⟩) m cap) l) (aq:l.length=m):cn w B (.slice (some ⟨g,0,none⟩) 0 cap) []:=by
 unfold cn at h;rw[aq]at h;exact Z2 (m:=0) h (Nat.zero_le _)
theorem acM {pri o:Nat→Int} {acc:List Nat} {c:Nat} (h:o c= -1):my pri o acc c=acc:=by unfold my;rw[if_pos h]
theorem acL {pri o:Nat→Int} {c:Nat} (h:o c≠ -1):my pri o [] c=[c]:=by unfold my;rw[if_neg h]
theorem acK {pri o:Nat→Int} {b c:Nat} {r:List Nat} (h:o c≠ -1) (I:pri b<pri c):my pri o (b::r) c=[c]:=by unfold my;rw[if_neg h];dsimp only;rw[if_pos I]
theorem acI {pri o:Nat→Int} {b c:Nat} {r:List Nat} (h:o c≠ -1) (I:pri c=pri b):my pri o (b::r) c=b::r++[c]:=by unfold my;rw[if_neg h];dsimp only;rw[if_neg (by omega)];dsimp only;rw[if_pos I]
theorem acJ {pri o:Nat→Int} {b c:Nat} {r:List Nat} (h:o c≠ -1) (I:pri c<pri b):my pri o (b::r) c=b::r:=by unfold my;rw[if_neg h];dsimp only;rw[if_neg (by omega)];dsimp only;rw[if_neg (by omega)]
theorem acN (v:Value) (par pri o:List Int) (p:Int) (w:World) (bl:Gp w v par pri o) (aq:par.length≤1000) (au:pri.length=par.length) (aL:o.length=par.length):
  Calls prog 137 #[v,p] w (p6 w.heap.size (b1 (jn (fx pri) (fx o) (hq par p))) w):=by
 obtain⟨ij,hS,hT,hU,hV⟩:=info_parts Tryz.rX;obtain⟨eK,j',fk,rfl,dJ,cJ,da⟩:=bl;have FJ:=hid (fun w1 (aa:Kept w w1)=>adm eK par p w1 (dJ.kept aa) aq);obtain⟨rn,p8,rfl,-⟩:=dJ.at_;obtain⟨pz,kk,rfl,yr⟩:=cJ.at_;obtain⟨qo,ft,rfl,Ex⟩:=da.at_;rw[au]at yr⊢;rw[aL]at Ex⊢;obtain⟨y5,aU⟩:∃B,B=jn (fx pri) (fx o) (hq par p):=⟨_,rfl⟩;have cg:=hid (show ((hq par p).drop 0).foldl (my (fx pri) (fx o)) []=y5 by rw[aU];rfl);rw[←aU];have h_:=hid (fun c (h:c∈hq par p)=>OA h);have mX:=hid (show (hq par p).length≤par.length from ac6 p par 0);generalize hq par p=mz at*;obtain⟨n,aA⟩:∃n,n=par.length:=⟨_,rfl⟩;have NF:=hid (fun i (aE:i<n)=>by
  obtain⟨b,off,I,U,ae⟩:=yr (by omega);exact (⟨b,off,I,U,ae i _ (wT (by omega))⟩:∃b off,pz=some ⟨b,off,none⟩∧b<w.heap.size∧w.cell? ⟨b,off+i,none⟩=some (.int .i64 (fx pri i))))
 have xK:=hid (fun i k (aE:i<n) (aa:k<n)=>by
  obtain⟨b,off,I,U,ae⟩:=yr (by omega);exact (⟨b,off,I,U,ae i _ (wT (by omega)),ae k _ (wT (by omega))⟩:∃b off,pz=some ⟨b,off,none⟩∧b<w.heap.size∧w.cell? ⟨b,off+i,none⟩=some (.int .i64 (fx pri i))∧w.cell? ⟨b,off+k,none⟩=some (.int .i64 (fx pri k))))
 have Nz:=hid (fun i (aE:i<n)=>by
  obtain⟨b,off,I,U,ae⟩:=Ex (by omega);exact (⟨b,off,I,U,ae i _ (wT (by omega))⟩:∃b off,qo=some ⟨b,off,none⟩∧b<w.heap.size∧w.cell? ⟨b,off+i,none⟩=some (.int .i64 (fx o i))))
 rw[←aA]at aq h_ mX FJ⊢;clear aA yr Ex dJ cJ da au aL aU;generalize fx pri=j6 at*;generalize fx o=BL at*;go_enter func137,ntmps137
 go_upto_region 2 with fail
 generalize ar:w.alloc _=W at*;obtain⟨aF,a_⟩:=Kept.az ar;clear ar;have dL:=a_.cell 0;have cA:=a_.lt;simp only[List.getElem?_toArray,List.getElem?_cons_zero]at dL;have tl:=hid (FJ.out W aF);go_upto_region 3 with (go_at_call 157;refine tl.out.mono ?_;rintro e w1 ⟨u,rfl,aO,aN⟩;obtain⟨ani,Ou,rfl,pS⟩:=cn.row aO;have bz:=hid (And.intro pS aN);clear aO aN pS)
 rw[mj];have bB:Kept w w1:=aF.trans bz.out.2;have aS:=a_.kept bz.out.2;have rh:=hid bz.out.1;clear FJ tl bz dL cA a_;have oY:(mz.length:Int)≤1000:=by have:=mX.out;omega
 go_loopw [5,13] (fun a y wr=>∃(j:Nat) (l:List Nat),y= .int .i64 j∧j≤mz.length∧Kept w1 wr∧cn wr w1.heap.size a (b1 l)∧l.length≤j∧(∀x∈l,x<n)∧(mz.drop j).foldl (my j6 BL) l=y5) (fun _ y _=>mz.length-(intOf y).toNat)
 case atStart=>exact⟨0,[],rfl,Nat.zero_le _,aQ _,World.ownsRow_nil _ _ _ _,Nat.le_refl _,fun x af=>(by cases af),cg.out⟩
 case round=>
  obtain⟨j,l,rfl,tZ,ab,KM,t',Ep,aG⟩:=hrel;by_cases aD:j<mz.length
  ·obtain⟨UY,rfl,aeS,KX,Hm⟩:=rh.out (by rw[mj];omega);have ai:mz[j]?=some mz[j]:=a8 aD;have w3:=h_.out _ (List.mem_of_getElem? ai);rw[aex _ ai]at aG;have b5:=Hm j _ (LH ai);generalize mz[j]=c at*;have hJ:=ab.ad KX b5;have alw:=bd KX ab.size;have aT:=aS.kept ab;have dR:=aT.cell 2;have bx:=aT.lt;simp only[List.getElem?_toArray,List.getElem?_cons_succ,List.getElem?_cons_zero]at dR;obtain⟨Ip,mN,rfl,yq,Cf⟩:=Nz.out c w3;have sv:=bB.trans ab;have je:=sv.ad yq Cf;have XU:=bd yq sv.size;have gu:(j:Int)<mz.length:=by omega
   have hci:(c:Int)<n:=by omega
   have dM:=hid KM;have du:=hid ab;have iQ:=hid (And.intro t' Ep);have n2:=ab.size;have dr:=hid aT;have fX:=hid sv;clear b5 Cf ai Hm KM ab aT sv;by_cases Qg:BL c= -1
   ·have aI:=hid (show (mz.drop (j+1)).foldl (my j6 BL) l=y5 by rw[acM Qg]at aG;exact aG);rw[Qg]at je;clear aG;go_wp2_with fail
    go_roundw
    case rel=>exact⟨j+1,l,by go_num,aD,du.out,dM.out,by have:=iQ.out.1;omega,iQ.out.2,aI.out⟩
    case measure=>simp[intOf];omega
   ·have aI:=hid aG;have lF:=hid Qg;obtain⟨aor,ac,rfl,BY⟩:=cn.row dM.out;rw[mj]at BY dM⊢;obtain⟨m,hm⟩:∃m,l.length=m:=⟨_,rfl⟩;rw[hm]at BY dM⊢;have cp:=hid hm;clear hm t';go_upto_region 6 with fail
    match l,BY,dM,iQ,aI,cp with
    |[],BY,dM,iQ,aI,cp=>
     obtain rfl:m=0:=cp.out.symm;refine fQ (by kernel_rfl) (by kernel_rfl) ?_
     repeat (go_big_quiet_step (fail))
     refine wpQuiet_nil ?_;rintro yZ ⟨⟨q3,iY⟩,bb⟩;obtain rfl:_=q3:=bb;go_upto_region 8 with fail
     refine fQ (by kernel_rfl) (by kernel_rfl) ?_
     repeat (go_big_quiet_step (fail))
     refine wpQuiet_nil ?_;rintro tc ⟨⟨q3,pX⟩,bb⟩;obtain rfl:_=q3:=bb;have gj:=hid ((du.out.trans iY).trans pX);have wq:=hid (dM.out.kH (iY.trans pX));have lq:=gj.out.size;clear iY pX BY;go_wp2_with (at_builtin;refine wpList_append_own_at _ rfl (.tmp 61) (.tmp 63) 92 rfl w1.heap.size 3 ij () 1 8 underlying92 hS hT hU hV rfl (by decide) _ (b1 []).length ((b1 []).map (.int .i64)) rfl (World.ownsRow.alloc wq.out _) ⟨tc.heap.size,0,none⟩ 1 1 [.int .i64 c] rfl rfl (cell_one_new _ _ _) (nz c) (by rw[mj];have:=iQ.out.1;first|(unfold maxLen;omega)|(simp only[List.length_nil];unfold maxLen;omega)) (by rw[mj];have:=iQ.out.1;first|omega|(simp only[List.length_nil];omega)) (by have:=gj.out.size;simp;omega) ?_;intro v9 hZ aO aN _ dA;have l0:=hid (And.intro (r9 aO) aN);clear aO aN dA)
     have aV:=hid (And.intro (kg (gj.out.alloc _) (World.ownsRow.alloc wq.out _) (Nat.le_refl _) l0.out.2) (show cn hZ w1.heap.size v9 (b1 [c])from l0.out.1));have iu:=hid (show (mz.drop (j+1)).foldl (my j6 BL) [c]=y5 by rw[←aI.out,acL lF.out]);go_roundw
     case rel=>exact⟨j+1,[c],by go_num,aD,aV.out.1,aV.out.2,by simp,fun x af=>by rw[List.mem_singleton]at af;subst af;omega,iu.out⟩
     case measure=>simp[intOf];omega
    |b::r,BY,dM,iQ,aI,cp=>
     obtain⟨anD,rfl,alj,BW,WQ⟩:=BY (by have:=cp.out;simp only[List.length_cons]at this;omega);have a0:=WQ 0 b rfl;have hm9:m≤1000:=by have:=cp.out;have:=iQ.out.1;omega
     have hbn:=iQ.out.2 b (List.mem_cons_self ..);have PN:(b:Int)<n:=by omega
     obtain⟨ux,r7,rfl,qL,Ci,XY⟩:=xK.out c b w3 hbn;have ka:=fX.out.ad qL Ci;have gL:=fX.out.ad qL XY;have xb:=bd qL fX.out.size;have dq:=dr.out.cell 1;simp only[List.getElem?_toArray,List.getElem?_cons_succ,List.getElem?_cons_zero]at dq;have H2:=al.cell BW a0;have o7:=al.cell xb ka;have H3:=al.cell xb gL;have kp:=al.cell bx dq;have ud:(0:Int)<(m:Int):=by have:=cp.out;simp only[List.length_cons]at this;omega
     have afr:¬(m:Int)=0:=by omega
     have gB:decide (0<(m:Int))=true:=decide_eq_true ud;have l8:decide (0<m)=true:=decide_eq_true (by omega);have PW:((m:Int)==0)=false:=by simp;omega
     have hd4:(m==0)=false:=by simp;omega
     clear Ci XY WQ;rcases Int.lt_trichotomy (j6 b) (j6 c)with EA|EA|EA
     ·have iR:=hid EA;refine fQ (by kernel_rfl) (by kernel_rfl) ?_
      repeat (go_big_quiet_step (fail))
      refine wpQuiet_nil ?_;rintro yZ ⟨⟨q3,iY⟩,bb⟩;obtain rfl:_=q3:=bb;have jE:=iY.ad BW a0;have alk:=bd BW iY.size;clear H2 o7 H3 kp;go_upto_region 8 with fail
      refine fQ (by kernel_rfl) (by kernel_rfl) ?_
      repeat (go_big_quiet_step (fail))
      refine wpQuiet_nil ?_;rintro tc ⟨⟨q3,pX⟩,bb⟩;obtain rfl:_=q3:=bb;have gj:=hid ((du.out.trans iY).trans pX);have wq:=hid (show cn tc w1.heap.size (.slice (some ⟨anD,0,none⟩) 0 ac) (b1 [])from ahN (dM.out.kH (iY.trans pX)) (by rw[mj];exact cp.out));have lq:=gj.out.size;clear iY pX;go_wp2_with (at_builtin;refine wpList_append_own_at _ rfl (.tmp 61) (.tmp 63) 92 rfl w1.heap.size 3 ij () 1 8 underlying92 hS hT hU hV rfl (by decide) _ (b1 []).length ((b1 []).map (.int .i64)) rfl (World.ownsRow.alloc wq.out _) ⟨tc.heap.size,0,none⟩ 1 1 [.int .i64 c] rfl rfl (cell_one_new _ _ _) (nz c) (by rw[mj];have:=iQ.out.1;first|(unfold maxLen;omega)|(simp only[List.length_nil];unfold maxLen;omega)) (by rw[mj];have:=iQ.out.1;first|omega|(simp only[List.length_nil];omega)) (by have:=gj.out.size;simp;omega) ?_;intro v9 hZ aO aN _ dA;have l0:=hid (And.intro (r9 aO) aN);clear aO aN dA)
      have aV:=hid (And.intro (kg (gj.out.alloc _) (World.ownsRow.alloc wq.out _) (Nat.le_refl _) l0.out.2) (show cn hZ w1.heap.size v9 (b1 [c])from l0.out.1));have iu:=hid (show (mz.drop (j+1)).foldl (my j6 BL) [c]=y5 by rw[←aI.out,acK lF.out iR.out]);go_roundw
      case rel=>exact⟨j+1,[c],by go_num,aD,aV.out.1,aV.out.2,by simp,fun x af=>by rw[List.mem_singleton]at af;subst af;omega,iu.out⟩
      case measure=>simp[intOf];omega
     ·have iR:=hid EA;have Ag:¬j6 b<j6 c:=by omega
      have hpe:(j6 c==j6 b)=true:=by simp;omega
      refine fQ (by kernel_rfl) (by kernel_rfl) ?_
      repeat (go_big_quiet_step (fail))
      refine wpQuiet_nil ?_;rintro yZ ⟨⟨q3,iY⟩,bb⟩;obtain rfl:_=q3:=bb;have QV:=al.cell (bd BW iY.size) (iY.ad BW a0);have QX:=al.cell (bd xb iY.size) (iY.ad xb ka);have QW:=al.cell (bd xb iY.size) (iY.ad xb gL);have QZ:=al.cell (bd bx iY.size) (iY.ad bx dq);have F5:=hid iY;clear H2 o7 H3 kp iY;go_upto_region 8 with fail
      refine fQ (by kernel_rfl) (by kernel_rfl) ?_
      repeat (go_big_quiet_step (fail))
      refine wpQuiet_nil ?_;rintro tc ⟨⟨q3,pX⟩,bb⟩;obtain rfl:_=q3:=bb;have gj:=hid ((du.out.trans F5.out).trans pX);have wq:=hid (dM.out.kH (F5.out.trans pX));have lq:=gj.out.size;clear pX QV QX QW QZ;go_wp2_with (at_builtin;refine wpList_append_own_at _ rfl (.tmp 61) (.tmp 63) 92 rfl w1.heap.size 3 ij () 1 8 underlying92 hS hT hU hV rfl (by decide) _ (b1 (b::r)).length ((b1 (b::r)).map (.int .i64)) rfl (World.ownsRow.alloc wq.out _) ⟨tc.heap.size,0,none⟩ 1 1 [.int .i64 c] rfl rfl (cell_one_new _ _ _) (nz c) (by rw[mj];have:=iQ.out.1;first|(unfold maxLen;omega)|(simp only[List.length_nil];unfold maxLen;omega)) (by rw[mj];have:=iQ.out.1;first|omega|(simp only[List.length_nil];omega)) (by have:=gj.out.size;simp;omega) ?_;intro v9 hZ aO aN _ dA;have l0:=hid (And.intro (r9 aO) aN);clear aO aN dA)
      have aV:=hid (And.intro (kg (gj.out.alloc _) (World.ownsRow.alloc wq.out _) (Nat.le_refl _) l0.out.2) (show cn hZ w1.heap.size v9 (b1 (b::r++[c]))from by rw[Rj];exact l0.out.1));have iu:=hid (show (mz.drop (j+1)).foldl (my j6 BL) (b::r++[c])=y5 by rw[←aI.out,acI lF.out iR.out.symm]);go_roundw
      case rel=>exact⟨j+1,(b::r++[c]),by go_num,aD,aV.out.1,aV.out.2,by have:=iQ.out.1;simp only[List.length_append,List.length_cons,List.length_nil]at*;omega,fun x af=>by
       rcases List.mem_append.1 af with af|af
       ·exact iQ.out.2 x af
       ·rw[List.mem_singleton]at af;subst af;omega,iu.out⟩
      case measure=>simp[intOf];omega
     ·have iR:=hid EA;have Ag:¬j6 b<j6 c:=by omega
      have hpe:(j6 c==j6 b)=false:=by simp;omega
      refine fQ (by kernel_rfl) (by kernel_rfl) ?_
      repeat (go_big_quiet_step (fail))
      refine wpQuiet_nil ?_;rintro yZ ⟨⟨q3,iY⟩,bb⟩;obtain rfl:_=q3:=bb;have QV:=al.cell (bd BW iY.size) (iY.ad BW a0);have QX:=al.cell (bd xb iY.size) (iY.ad xb ka);have QW:=al.cell (bd xb iY.size) (iY.ad xb gL);have QZ:=al.cell (bd bx iY.size) (iY.ad bx dq);have F5:=hid iY;clear H2 o7 H3 kp iY;go_upto_region 8 with fail
      refine fQ (by kernel_rfl) (by kernel_rfl) ?_
      repeat (go_big_quiet_step (fail))
      refine wpQuiet_nil ?_;rintro tc ⟨⟨q3,pX⟩,bb⟩;obtain rfl:_=q3:=bb;have gj:=hid ((du.out.trans F5.out).trans pX);have wq:=hid (dM.out.kH (F5.out.trans pX));have lq:=gj.out.size;clear pX QV QX QW QZ;have iu:=hid (show (mz.drop (j+1)).foldl (my j6 BL) (b::r)=y5 by rw[←aI.out,acJ lF.out iR.out]);go_wp2_with fail
      go_roundw
      case rel=>exact⟨j+1,b::r,by go_num,aD,gj.out,wq.out,by have:=iQ.out.1;omega,iQ.out.2,iu.out⟩
      case measure=>simp[intOf];omega
  ·obtain rfl:j=mz.length:=by omega
   have gu:¬((mz.length:Int)<mz.length):=by omega
   rw[List.drop_length]at aG;obtain rfl:l=y5:=aG;have aV:=hid (And.intro KM ab);clear KM ab;go_wp2_with fail
   go_ret;exact⟨_,rfl,cn.low aV.out.1 bB.size,bB.trans aV.out.2⟩
def MM (z:Int) (w:World) (e:Ending) (w':World):Prop:=e= .returned z∧Kept w w'
theorem UD {pri o:Nat→Int} {l:List Nat} {c:Nat} (h:c∈jn pri o l):c∈l:=by
 rw[vd]at h;exact (uj.1 h).1
theorem aaA {pri f g:Nat→Int} {l:List Nat} (h:∀c∈l,f c=g c):n5 f (jn pri f l)=n5 g (jn pri g l):=by
 have J:jn pri f l=jn pri g l:=by
  rw[vd,vd];unfold mP;refine List.filter_congr fun c ah=> ?_;rw[decide_eq_decide,h c ah];exact and_congr Iff.rfl ⟨fun bb d av=>by rw[←h d av];exact bb d av,fun bb d av=>by rw[h d av];exact bb d av⟩
 have ax:∀c∈jn pri g l,f c=g c:=fun c ah=>h c (UD ah);rw[J];match jt:jn pri g l,ax with
 |[],_=>rfl
 |[c],ax=>exact ax c (by simp)
 |c::d::r,_=>rfl
theorem ZN (v:Value) (par pri o:List Int) (p:Int) (w:World) (bl:Gp w v par pri o) (aq:par.length≤1000) (au:pri.length=par.length) (aL:o.length=par.length):
  Calls prog 107 #[v,p] w (MM (n5 (fx o) (jn (fx pri) (fx o) (hq par p))) w):=by
 have S2:=hid (fun w1 (aa:Kept w w1)=>acN v par pri o p w1 (bl.kept aa) aq au aL);obtain⟨eK,j',fk,rfl,dJ,cJ,da⟩:=bl;obtain⟨rn,p8,rfl,-⟩:=dJ.at_;obtain⟨pz,kk,rfl,-⟩:=cJ.at_;obtain⟨qo,ft,rfl,Ex⟩:=da.at_;have Nz:=hid (fun i (aE:i<par.length)=>by
  obtain⟨b,off,I,U,ae⟩:=Ex (by omega);exact (⟨b,off,I,U,ae i _ (wT (by omega))⟩:∃b off,qo=some ⟨b,off,none⟩∧b<w.heap.size∧w.cell? ⟨b,off+i,none⟩=some (.int .i64 (fx o i))))
 have F0:=hid (fun c (h:c∈jn (fx pri) (fx o) (hq par p))=>OA (UD h));generalize jn (fx pri) (fx o) (hq par p)=pE at*;have nt:(o.length:Int)=par.length:=by omega
 rw[au,aL]at*;clear Ex dJ cJ da;generalize par.length=n at*;go_enter func107,ntmps107
 go_upto_region 1 with fail
 generalize ar:w.alloc _=W at*;obtain⟨aF,a_⟩:=Kept.az ar;clear ar;have dL:=a_.cell 0;have dq:=a_.cell 1;have dR:=a_.cell 2;have cA:=a_.lt;simp only[List.getElem?_toArray,List.getElem?_cons_zero,List.getElem?_cons_succ]at dL dq dR;have dD:=hid (S2.out W aF);go_upto_region 2 with (go_at_call 137;refine dD.out.mono ?_;rintro e w1 ⟨u,rfl,aO,aN⟩;obtain⟨ani,Ou,rfl,pS⟩:=cn.row aO;have bz:=hid (And.intro pS aN);clear aO aN pS)
 rw[mj];have bB:Kept w w1:=aF.trans bz.out.2;have aS:=a_.kept bz.out.2;have rh:=hid bz.out.1;have fU:=aS.cell 2;have dz:=aS.lt;simp only[List.getElem?_toArray,List.getElem?_cons_zero,List.getElem?_cons_succ]at fU;have iP:=hid bB;clear S2 dD bz dL dq dR cA a_ aS;match pE,rh,F0 with
 |[],rh,F0=>
  go_wp2_with fail
  go_ret;exact⟨rfl,iP.out⟩
 |c::d::r,rh,F0=>
  obtain⟨m,hm⟩:∃m,(c::d::r).length=m:=⟨_,rfl⟩;rw[hm];have aj:¬(m:Int)=0:=by simp only[List.length_cons]at hm;omega
  have I:¬(m:Int)=1:=by simp only[List.length_cons]at hm;omega
  clear hm;go_wp2_with fail
  go_ret;exact⟨rfl,iP.out⟩
 |[c],rh,F0=>
  obtain⟨UY,rfl,aeS,KX,Hm⟩:=rh.out (by simp[b1]);have w3:=F0.out c (by simp);have b5:=Hm 0 c rfl;obtain⟨Ip,mN,rfl,yq,Cf⟩:=Nz.out c w3;have je:=iP.out.ad yq Cf;have XU:=bd yq iP.out.size;have mH:=al.cell KX b5;have ak:=al.cell XU je;have a':=al.cell dz fU;have hci:(c:Int)<n:=by omega
  clear Hm Cf;go_upto_region 6 with fail
  refine fQ (by kernel_rfl) (by kernel_rfl) ?_
  repeat (go_big_quiet_step (fail))
  refine wpQuiet_nil ?_;rintro cf ⟨⟨bt,cj⟩,bb⟩;obtain rfl:cf=bt:=bb;go_wp2_with fail
  go_ret;exact⟨rfl,iP.out.trans cj⟩
def OD (b:Bool) (w:World) (e:Ending) (w':World):Prop:=∃c:Int,e= .returned c∧(b=true→c=0)∧(b=false→c≠0)∧Kept w w'
theorem ajO {par pri:List Int} {i:Nat} {q:Int} (aE:par[i]?=some q) (aq:pri.length=par.length) (h:¬(-1≤q∧q<i∧0≤fx pri i∧fx pri i≤9)):nD par pri=false:=by
 cases bS:nD par pri
 ·rfl
 ·exact absurd (((II aq).1 bS).2 i q aE) h
theorem aiu (eK j':Value) (par pri:List Int) (w:World) (dJ:fC w eK par) (cJ:fC w j' pri) (aq:par.length≤1000) (au:pri.length≤1000):Calls prog 105 #[eK,j'] w (OD (nD par pri) w):=by
 obtain⟨rn,p8,rfl,Qk⟩:=dJ.at_;obtain⟨pz,kk,rfl,yr⟩:=cJ.at_;have FW:=hid (fun i (aE:i<par.length)=>by
  obtain⟨b,off,I,U,ae⟩:=Qk (by omega);exact (⟨b,off,I,U,ae i _ (wT (by omega))⟩:∃b off,rn=some ⟨b,off,none⟩∧b<w.heap.size∧w.cell? ⟨b,off+i,none⟩=some (.int .i64 (fx par i))))
 have NF:=hid (fun i (aE:i<pri.length)=>by
  obtain⟨b,off,I,U,ae⟩:=yr (by omega);exact (⟨b,off,I,U,ae i _ (wT (by omega))⟩:∃b off,pz=some ⟨b,off,none⟩∧b<w.heap.size∧w.cell? ⟨b,off+i,none⟩=some (.int .i64 (fx pri i))))
 have H1:=hid (show par.length≠pri.length→nD par pri=false from fun h=>by unfold nD;rw[decide_eq_false h];rfl);have sh:=hid (show par.length=pri.length→¬par.length≤8→nD par pri=false from fun h U=>by unfold nD;rw[decide_eq_false U];simp);have pq:=hid (show∀i,i<par.length→par.length=pri.length→¬(-1≤fx par i∧fx par i<i∧0≤fx pri i∧fx pri i≤9)→nD par pri=false from fun i aE h U=>ajO (wT aE) h.symm U);have hK:=hid (show par.length=pri.length→par.length≤8→(∀i,i<par.length→(-1≤fx par i∧fx par i<i∧0≤fx pri i∧fx pri i≤9))→nD par pri=true from fun h U ae=>(II h.symm).2 ⟨U,fun i p hp=>by
  have aE:=(b8 hp).1;have:=ae i aE;rw[wT aE]at hp;obtain rfl:=Option.some.inj hp;exact this⟩)
 generalize nD par pri=tb at*;obtain⟨n,aA⟩:∃n,par.length=n:=⟨_,rfl⟩;obtain⟨m,hm⟩:∃m,pri.length=m:=⟨_,rfl⟩;rw[aA]at aq FW H1 sh pq hK⊢;rw[hm]at au NF H1 sh pq hK⊢;clear aA hm Qk yr dJ cJ;generalize fx par=j6 at*;generalize fx pri=BM at*;have dX:=hid (show∀c:Int,tb=false→c≠0→∀w',Kept w w'→OD tb w (.returned c) w' from fun c I U w' aa=>⟨c,rfl,fun h=>(by rw[I]at h;cases h),fun _=>U,aa⟩);have xP:=hid (show tb=true→∀w',Kept w w'→OD tb w (.returned ()) w' from fun I w' aa=>⟨0,rfl,fun _=>rfl,fun h=>(by rw[I]at h;cases h),aa⟩);by_cases kf:n=m
 case neg=>
  have I:=hid (H1.out kf);have bQ:¬(n:Int)=m:=by omega
  go_enter func105,ntmps105
  go_wp2_with fail
  go_ret;exact dX.out _ I.out (by decide) _ (by with_reducible repeat first|exact .refl _|assumption|refine .drew ?_|refine .alloc ?_ _|refine .setCell ?_ (by (try simp only);omega) _|refine .trans ?_ ‹Kept _ _›)
 subst kf;by_cases et:n≤8
 case neg=>
  have I:=hid (sh.out rfl et);have bQ:(8:Int)<n:=by omega
  go_enter func105,ntmps105
  go_wp2_with fail
  go_ret;exact dX.out _ I.out (by decide) _ (by with_reducible repeat first|exact .refl _|assumption|refine .drew ?_|refine .alloc ?_ _|refine .setCell ?_ (by (try simp only);omega) _|refine .trans ?_ ‹Kept _ _›)
 have h8i:¬(8:Int)<n:=by omega
 go_enter func105,ntmps105
 go_upto_region 6 with fail
 go_loopw [17] (fun y wr=>∃i:Nat,y= .int .i64 i∧i≤n∧wr=w∧∀j,j<i→(-1≤j6 j∧j6 j<j∧0≤BM j∧BM j≤9)) (fun y _=>n-(intOf y).toNat)
 case atStart=>exact⟨0,rfl,Nat.zero_le _,rfl,fun j aB=>absurd aB (Nat.not_lt_zero _)⟩
 case round=>
  obtain⟨i,rfl,de,rfl,ht⟩:=hrel;have ej:=hid ht;clear ht;by_cases aD:i<n
  ·obtain⟨gG,anY,rfl,ma,EA⟩:=FW.out i aD;obtain⟨ux,r7,rfl,qL,Ci⟩:=NF.out i aD;have c6:(i:Int)<n:=by omega
   have uR:=hid (pq.out i aD (by trivial));have ep:=hid (show (-1≤j6 i∧j6 i<i∧0≤BM i∧BM i≤9)→∀j,j<i+1→(-1≤j6 j∧j6 j<j∧0≤BM j∧BM j≤9)from fun h j aB=>by
    by_cases e:j=i
    ·subst e;exact h
    ·exact ej.out j (by omega))
   generalize j6 i=a at*;generalize BM i=b at*;rcases (show a< -1∨(¬a< -1∧(i:Int)≤a)∨(¬a< -1∧¬(i:Int)≤a∧b<0)∨(¬a< -1∧¬(i:Int)≤a∧¬b<0∧9<b)∨(¬a< -1∧¬(i:Int)≤a∧¬b<0∧¬9<b) by omega)with I|⟨I,U⟩|⟨I,U,ae⟩|⟨I,U,ae,aJ⟩|⟨I,U,ae,aJ⟩
   iterate 4
    ·have hF:=hid (uR.out (by omega));go_wp2_with fail
     go_ret;exact dX.out _ hF.out (by decide) _ (aQ _)
   ·have cD:=hid (ep.out (by omega));go_wp2_with fail
    go_roundw
    case rel=>exact⟨i+1,by go_num,aD,by trivial,cD.out⟩
    case measure=>simp[intOf];omega
  ·obtain rfl:i=n:=by omega
   have c6:¬((i:Int)<i):=by omega
   have hF:=hid (hK.out (by trivial) et ej.out);go_wp2_with fail
   go_ret;exact xP.out hF.out _ (aQ _)
structure uN (w:World) (B:Nat) (X:List Nat) (us:List Value) (ls:List (List Int)):Prop where
 len:us.length=ls.length
 own:∀(d:Nat) (u:Value) (l:List Int),us[d]?=some u→ls[d]?=some l→cn w B u l
 ap:∀(d eR:Nat) (u km:Value),d≠eR→us[d]?=some u→us[eR]?=some km→h8 u km
 far:∀(d:Nat) (u:Value),us[d]?=some u→∀x∈X,u.ownBlock≠some x
 low:∀x∈X,x<w.heap.size
theorem cn.two {w w':World} {B r:Nat} {a:Option Nat} {u:Value} {l:List Int} (h:cn w B u l) (ai:Two w w' a r) (aZ:∀g,u.ownBlock=some g→a≠some g) (aH:u.ownBlock≠some r):cn w' B u l:=by
 refine⟨h.1,?_⟩;rcases h.2 with U|⟨g,cap,cur,ay,J,bb,ae⟩
 ·exact .inl U
 ·refine .inr ⟨g,cap,cur,ay,J,?_,ae⟩;rw[ai.block g (Array.getElem?_eq_some_iff.1 bb).1 (fun e=>aH (by rw[ay,←e];rfl)) (fun e=>aZ g (by rw[ay];rfl) e.symm)];exact bb
theorem uN.two {w w':World} {B r d:Nat} {X:List Nat} {us:List Value} {ls:List (List Int)} {u v:Value} {m:List Int} (h:uN w B X us ls) (hu:us[d]?=some u) (aL:cn w' B v m) (ai:Two w w' u.ownBlock r) (aH:r∈X)
  (ay:v.ownBlock=u.ownBlock∨∃g,v.ownBlock=some g∧w.heap.size≤g):uN w' B X (us.set d v) (ls.set d m):=by
 have av:=(b8 hu).1;have hvX:∀x∈X,v.ownBlock≠some x:=fun x af=>by
  rcases ay with e|⟨g,e,ln⟩
  ·rw[e];exact h.far d u hu x af
  ·rw[e];intro a6;have:=Option.some.inj a6;have:=h.low x af;omega
 have Yt:∀(eR:Nat) (km:Value),d≠eR→us[eR]?=some km→h8 v km:=fun eR km bQ iX=>by
  rcases ay with e|⟨g,e,ln⟩
  ·intro k aa gC;rw[e]at aa;exact h.ap d eR u km bQ hu iX k aa gC
  ·intro k aa gC;rw[e]at aa;obtain rfl:=Option.some.inj aa;have mE:eR<ls.length:=by rw[←h.len];exact (b8 iX).1
   have:=E9 (h.own eR km _ iX (a8 mE)) gC;omega
 refine⟨by rw[List.length_set,List.length_set];exact h.len,fun eR km p0 iX lO=> ?_,fun d1 d2 u1 u2 bQ I U=> ?_,fun eR km iX=> ?_,fun x af=>bd (h.low x af) ai.size⟩
 ·rw[List.getElem?_set]at iX lO;by_cases e:d=eR
  ·subst e;rw[if_pos rfl,if_pos av]at iX;rw[if_pos rfl,if_pos (by rw[←h.len];exact av)]at lO
   cases iX;cases lO;exact aL
  ·rw[if_neg e]at iX lO;exact (h.own eR km p0 iX lO).two ai (fun g e2 dT=>h.ap d eR u km e hu iX g dT e2) (h.far eR km iX r aH)
 ·rw[List.getElem?_set]at I U;by_cases az:d=d1
  ·subst az;rw[if_pos rfl,if_pos av]at I;rw[if_neg bQ]at U
   cases I;exact Yt d2 u2 bQ U
  ·rw[if_neg az]at I;by_cases a6:d=d2
   ·subst a6;rw[if_pos rfl,if_pos av]at U
    cases U;exact (Yt d1 u1 az I).symm
   ·rw[if_neg a6]at U;exact h.ap d1 d2 u1 u2 bQ I U
 ·rw[List.getElem?_set]at iX;by_cases e:d=eR
  ·subst e;rw[if_pos rfl,if_pos av]at iX
   cases iX;exact hvX
  ·rw[if_neg e]at iX;exact h.far eR km iX
theorem uN.Mi {w:World} {B x:Nat} {X:List Nat} {us:List Value} {ls:List (List Int)} (h:uN w B X us ls) (af:x∈X) (i:Nat) (u:Value):uN (w.setCell ⟨x,i,none⟩ u) B X us ls:=
 ⟨h.len,fun d v l ay aq=>(h.own d v l ay aq).vY (h.far d v ay x af) u,h.ap,h.far,fun y db=>by simp;exact h.low y db⟩
theorem uN.keep {w w':World} {B:Nat} {X:List Nat} {us:List Value} {ls:List (List Int)} (h:uN w B X us ls) (aa:Kept w w'):uN w' B X us ls:=
 ⟨h.len,fun d v l ay aq=>(h.own d v l ay aq).kH aa,h.ap,h.far,fun y db=>bd (h.low y db) aa.size⟩
def rW (l:List Int):Array Value:=(l.map (Value.int .i64)).toArray
theorem xe {l:List Int} {i:Nat} (h:i<l.length):(rW l)[i]?=some (.int .i64 (c4 l i)):=by
 unfold rW c4;rw[List.getElem?_toArray,List.getElem?_map,a8 h];rfl
theorem EP (l:List Int) (i:Nat) (x:Int):(rW l).setIfInBounds i x=rW (l.set i x):=by
 unfold rW;rw[List.setIfInBounds_toArray,List.map_set]
structure f' (w:World) (B bG T R:Nat) (eI:List Value) (ez:List (List Int)) (ay:Value) (rd:List Int) (fk:Value) (gi wt:List Int):Prop where
 pd:ao w bG 92 eI.toArray
 tb:ao w T 3 (rW wt)
 fz:ao w R 177 #[ay]
 kz:uN w B [bG,T,R] (eI++[ay,fk]) (ez++[rd,gi])
 len:eI.length=ez.length
 ut:bG≠T
 yT:bG≠R
 lz:T≠R
 ez:B≤bG
 lt:B≤T
 vM:B≤R
section
variable {w w':World} {B bG T R:Nat} {eI:List Value} {ez:List (List Int)} {ay:Value} {rd:List Int} {fk:Value} {gi wt:List Int}
theorem f'.EN (h:f' w B bG T R eI ez ay rd fk gi wt):(eI++[ay,fk])[eI.length]?=some ay∧(ez++[rd,gi])[eI.length]?=some rd:=
 ⟨by rw[List.getElem?_append_right (Nat.le_refl _),Nat.sub_self];rfl,by rw[h.len,List.getElem?_append_right (Nat.le_refl _),Nat.sub_self];rfl⟩
theorem f'.LU (h:f' w B bG T R eI ez ay rd fk gi wt):(eI++[ay,fk])[eI.length+1]?=some fk∧(ez++[rd,gi])[eI.length+1]?=some gi:=
 ⟨by rw[List.getElem?_append_right (by omega),show eI.length+1-eI.length=1 by omega];rfl,by rw[h.len,List.getElem?_append_right (by omega),show ez.length+1-ez.length=1 by omega];rfl⟩
theorem f'.Fe (h:f' w B bG T R eI ez ay rd fk gi wt) {d:Nat} (av:d<eI.length):(eI++[ay,fk])[d]?=some eI[d]∧(ez++[rd,gi])[d]?=some (ez[d]'(by rw[←h.len];exact av)):=
 ⟨by rw[List.getElem?_append_left av,a8 av],by rw[List.getElem?_append_left (by rw[←h.len];exact av),a8]⟩
theorem f'.hp (h:f' w B bG T R eI ez ay rd fk gi wt):h' w B R ay rd:=
 ⟨h.fz,h.kz.own _ _ _ h.EN.1 h.EN.2,h.kz.far _ _ h.EN.1 R (by simp),h.vM⟩
theorem f'.mN (h:f' w B bG T R eI ez ay rd fk gi wt):cn w B fk gi:=h.kz.own _ _ _ h.LU.1 h.LU.2
theorem f'.keep (h:f' w B bG T R eI ez ay rd fk gi wt) (aa:Kept w w'):f' w' B bG T R eI ez ay rd fk gi wt:=
 ⟨h.pd.kept aa,h.tb.kept aa,h.fz.kept aa,h.kz.keep aa,h.len,h.ut,h.yT,h.lz,h.ez,h.lt,h.vM⟩
theorem f'.alloc (h:f' w B bG T R eI ez ay rd fk gi wt) (o:Obj):f' (w.alloc o) B bG T R eI ez ay rd fk gi wt:=h.keep (Kept.alloc (aQ w) o)
theorem f'.aaC (h:f' w B bG T R eI ez ay rd fk gi wt) (k:Nat) (x:Int):f' (w.setCell ⟨T,k,none⟩ x) B bG T R eI ez ay rd fk gi (wt.set k x):=
 ⟨h.pd.far (p:=⟨T,k,none⟩) h.ut _,by have:=h.tb.aP k x;rwa [EP]at this,h.fz.far (p:=⟨T,k,none⟩) h.lz.symm _,h.kz.Mi (by simp) k _,h.len,h.ut,h.yT,h.lz,h.ez,h.lt,h.vM⟩
theorem f'.heap {hv':Value} {rd':List Int} (h:f' w B bG T R eI ez ay rd fk gi wt) (I:h' w' B R hv' rd') (U:Two w w' ay.ownBlock R) (ae:hv'.ownBlock=ay.ownBlock∨∃g,hv'.ownBlock=some g∧w.heap.size≤g):f' w' B bG T R eI ez hv' rd' fk gi wt:=by
 have qH:=h.kz.far _ _ h.EN.1;refine⟨(U.block bG h.pd.lt h.yT (fun e=>qH bG (by simp) e.symm)).trans h.pd,(U.block T h.tb.lt h.lz (fun e=>qH T (by simp) e.symm)).trans h.tb,I.box,?_,h.len,h.ut,h.yT,h.lz,h.ez,h.lt,h.vM⟩;have:=h.kz.two h.EN.1 I.own U (by simp) ae;rw[List.set_append_right _ _ (Nat.le_refl _),Nat.sub_self]at this;rw[h.len,List.set_append_right _ _ (Nat.le_refl _),Nat.sub_self]at this;exact this
theorem f'.ord {LR:Value} {ZM:List Int} (h:f' w B bG T R eI ez ay rd fk gi wt) (I:cn w' B LR ZM) (U:w.grownBy w' fk.ownBlock) (ae:LR.ownBlock=fk.ownBlock∨LR.ownBlock=some w.heap.size):f' w' B bG T R eI ez ay rd LR ZM wt:=by
 have qH:=h.kz.far _ _ h.LU.1;refine⟨(U.block bG h.pd.lt (fun e=>qH bG (by simp) e.symm)).trans h.pd,(U.block T h.tb.lt (fun e=>qH T (by simp) e.symm)).trans h.tb,(U.block R h.fz.lt (fun e=>qH R (by simp) e.symm)).trans h.fz,?_,h.len,h.ut,h.yT,h.lz,h.ez,h.lt,h.vM⟩;have:=h.kz.two h.LU.1 I (Two.uv (r:=R) U) (by simp) (ae.imp id fun e=>⟨_,e,Nat.le_refl _⟩);rw[List.set_append_right _ _ (by omega),show eI.length+1-eI.length=1 by omega]at this;rw[h.len,List.set_append_right _ _ (by omega),show ez.length+1-ez.length=1 by omega]at this;exact this
theorem f'.user {d:Nat} {v:Value} {m:List Int} (h:f' w B bG T R eI ez ay rd fk gi wt) (av:d<eI.length) (I:cn w' B v m) (U:w.grownBy w' (eI[d]).ownBlock) (ae:v.ownBlock=(eI[d]).ownBlock∨v.ownBlock=some w.heap.size):
  f' (w'.setCell ⟨bG,d,none⟩ v) B bG T R (eI.set d v) (ez.set d m) ay rd fk gi wt:=by
 have qH:=h.kz.far _ _ (h.Fe av).1;have kd:ao w' bG 92 eI.toArray:=(U.block bG h.pd.lt (fun e=>qH bG (by simp) e.symm)).trans h.pd;have bl:ao w' T 3 (rW wt):=(U.block T h.tb.lt (fun e=>qH T (by simp) e.symm)).trans h.tb;have aw:ao w' R 177 #[ay]:=(U.block R h.fz.lt (fun e=>qH R (by simp) e.symm)).trans h.fz;refine⟨?_,bl.far (p:=⟨bG,d,none⟩) h.ut.symm _,aw.far (p:=⟨bG,d,none⟩) h.yT.symm _,?_,by rw[List.length_set,List.length_set];exact h.len,h.ut,h.yT,h.lz,h.ez,h.lt,h.vM⟩
 ·have:=kd.aP d v;rwa [List.setIfInBounds_toArray]at this
 ·have:=(h.kz.two (h.Fe av).1 I (Two.uv (r:=R) U) (by simp) (ae.imp id fun e=>⟨_,e,Nat.le_refl _⟩)).Mi (x:=bG) (by simp) d v;rw[List.set_append_left _ _ av,List.set_append_left _ _ (by rw[←h.len];exact av)]at this;exact this
end
end Go.Proofs.YtobpgndkciofhaaGreatDoor
