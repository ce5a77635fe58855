import Derived.Test.YtobpgndkciofhaaGreatDoorF
import Derived.Maps.OwnOps
import Derived.Maps.Views
set_option linter.all false
namespace Go.Proofs.YtobpgndkciofhaaGreatDoor
open Go.RowKit Go.Proofs.Tryz
open Go.Lib (hid)
set_option maxRecDepth 100000
set_option maxHeartbeats 8000000
theorem aik (op:Int) (aL:op=17∨op=18) (b off cap:Nat) (x y z:cO) (w:World) (hC:ru w b off 2 x y z):Calls prog 188 #[op,.slice (some ⟨b,off,none⟩) 2 cap] w (jc (iK op x y z) w):=by
 unfold jc;have aw:iK op x y z=(x,q0 x y&&(lU x.k||x.k==5)):=by rcases aL with rfl|rfl<;>rfl
 rw[aw];clear aw;obtain⟨J,aC,aM,a1⟩:=hC;obtain⟨kr,kq⟩:=aC (by decide);obtain⟨mR,mQ⟩:=aM (by decide);clear aC aM a1;obtain⟨e5,fK⟩:=x;obtain⟨f_,hA⟩:=y;dsimp only at*;have bk:=hid (fun k w1=>GO k w1);unfold q0;dsimp only;rcases aL with rfl|rfl
 all_goals
  go_enter func188,ntmps188
  go_upto_region 18 with fail
  generalize ar:(w.alloc _).alloc _=W at*;obtain⟨aW,aS,aT⟩:=Kept.a6 ar;clear ar;have fO:=bd J aW.size;have lB:=aW.ad J kr;have lA:=aW.ad J kq;have oM:=aW.ad J mR;have oL:=aW.ad J mQ;have bQ:b≠w.heap.size:=by omega
  have aV:=hid (fun (k e:Int)=>hi k e aS aW (Nat.le_refl _));obtain⟨aC,a7,f1⟩:=aS.q;obtain⟨aM,bx⟩:=aT.p;by_cases I:f_=e5
  case neg=>
   have aA:(e5==f_)=false:=by simpa using (Ne.symm I)
   go_region
   all_goals
    go_wp2_with fail
    obtain⟨cC,al⟩:=aV.out e5 fK;have cq:=cC.drew.cell;exact bodyPost_ret (v:= .tuple #[.agg #[e5,fK],.bool false]) (by simp[results,results188,go_sem,cq]) rfl ⟨(by simp[aA]),al.drew⟩
  subst I;by_cases U:hA=fK
  case neg=>
   have aA:(fK==hA)=false:=by simpa using (Ne.symm U)
   go_region
   all_goals
    go_wp2_with fail
    obtain⟨cC,al⟩:=aV.out f_ fK;have cq:=cC.drew.cell;exact bodyPost_ret (v:= .tuple #[.agg #[f_,fK],.bool false]) (by simp[results,results188,go_sem,cq]) rfl ⟨(by simp[aA]),al.drew⟩
  subst U;have l1:=bk.out f_
  cases au:lU f_
  case false=>
   rw[au]at l1;have uR:=hid l1;clear l1;have ej:=hid (show∀X:World,Kept w X→Kept w X∧X.cell? ⟨b,off,none⟩=some (.int .i64 f_)∧X.cell? ⟨b,off+1,none⟩=some (.int .i64 hA)∧X.cell? ⟨b,off+2,none⟩=some (.int .i64 f_)∧X.cell? ⟨b,off+2+1,none⟩=some (.int .i64 hA)from fun X h=>⟨h,h.ad J kr,h.ad J kq,h.ad J mR,h.ad J mQ⟩);go_region_held3 (fun X=>Kept w X∧X.cell? ⟨b,off,none⟩=some (.int .i64 f_)∧X.cell? ⟨b,off+1,none⟩=some (.int .i64 hA)∧X.cell? ⟨b,off+2,none⟩=some (.int .i64 f_)∧X.cell? ⟨b,off+2+1,none⟩=some (.int .i64 hA))
    ((refine ej.out _ ?_;(with_reducible repeat (first|assumption|refine .drew ?_|refine .setCell ?_ (Nat.le_refl _) _))))
    ((go_at_call 205;refine (uR.out _).mono ?_;rintro e w1 ⟨rfl,rfl⟩))
   all_goals
    go_wp2_with fail
    obtain⟨cC,al⟩:=aV.out f_ hA;have cq:=cC.drew.cell;exact bodyPost_ret (v:= .tuple #[.agg #[f_,hA],.bool (f_==5)]) (by simp[results,results188,go_sem,cq]) rfl ⟨(by simp[au]),al.drew⟩
  case true=>
   rw[au]at l1;have uR:=hid l1;have fM:=hid (show∀s∈([(24,w.heap.size,57,#[f_,hA])]:List ia),∃cs,ao W s.2.1 s.2.2.1 cs∧cs.size=s.2.2.2.size from by
    intro s ax;simp only[List.mem_cons,List.not_mem_nil,or_false]at ax;subst ax;exact⟨_,aS,rfl⟩)
   have iD:=hid (show∀g,g≠w.heap.size→∀s∈([(24,w.heap.size,57,#[f_,hA])]:List ia),g≠s.2.1 from by
    intro g ai s ax;simp only[List.mem_cons,List.not_mem_nil,or_false]at ax;subst ax;exact ai)
   have ep:=hid (show na [(24,w.heap.size,57,#[f_,hA])]from List.pairwise_singleton ..);have e3:=dc.cell (n:=26) (iD.out b bQ) fO lB;have ee:=dc.cell (n:=26) (iD.out b bQ) fO lA;have fW:=dc.cell (n:=26) (iD.out b bQ) fO oM;have mS:=dc.cell (n:=26) (iD.out b bQ) fO oL;have NE:Nonempty (dc W 26 [(24,w.heap.size,57,#[f_,hA])]):=dc.ne fM.out;clear l1 aV lB lA oM oL aC a7 f1 aM bx;refine v_ (C:=gl W 26 [(24,w.heap.size,57,#[f_,hA])]) (by kernel_rfl) (by kernel_rfl) (by kernel_rfl) (fun _ _ h=>h.sZ) (gl.start fM.out) ?_;refine lu [_,_,_,_,_,_,_,_,_,_,_,_,_,_,_] [_,_,_,_,_,_,_,_,_,_,_] 0 _ rfl (by simp) ?_
   repeat (go_big_quiet_step (exact rfl))
   refine wpQuiet_nil ?_;apply Q8 (.bool true) (by simp) rfl
   ·intro X;go_big_quiet_step (first|(go_at_call 205;exact xS.pure (uR.out _)))
    exact wpQuiet_nil rfl
   ·exact fun u hu=>by simpa[Act.put] using hu
   refine lu [_,_,_,_,_,_,_,_] [_,_] _ _ rfl (by simp) ?_
   repeat (go_big_quiet_step (exact rfl))
   refine wpQuiet_nil ?_;refine nx (g:=w.heap.size) (T:=57) (cs:=[.int .i64 f_,hA]) (by simp) (ep.out.apart _ (by simp)) rfl rfl rfl rfl rfl (by kernel_rfl) rfl ?_;refine lu [_] [] _ _ rfl (by simp) ?_
   repeat (go_big_quiet_step (exact rfl))
   refine wpQuiet_nil ?_;refine vN ?_;intro wC hZ jq fi;have mT:=fi.new jq (s:=(24,_,_,_)) (by simp;exact⟨rfl,rfl,rfl⟩) (by simp only;omega);have hL:=hid (fi.kept aW (fun s ax=>by simp only[List.mem_cons,List.not_mem_nil,or_false]at ax;subst ax;exact Nat.le_refl _));go_wp2_with fail
   have cq:=mT.cell;exact bodyPost_ret (v:= .tuple #[.agg #[f_,hA],.bool true]) (by simp[results,results188,go_sem,cq]) rfl ⟨(by simp),hL.out⟩
theorem aim (op:Int) (aL:op=21∨op=22) (b off cap:Nat) (x y z:cO) (w:World) (hC:ru w b off 2 x y z):Calls prog 188 #[op,.slice (some ⟨b,off,none⟩) 2 cap] w (jc (iK op x y z) w):=by
 unfold jc;have aw:iK op x y z=(⟨1,0⟩,q0 x y&&(lU x.k||x.k==5)):=by rcases aL with rfl|rfl<;>rfl
 rw[aw];clear aw;obtain⟨J,aC,aM,a1⟩:=hC;obtain⟨kr,kq⟩:=aC (by decide);obtain⟨mR,mQ⟩:=aM (by decide);clear aC aM a1;obtain⟨e5,fK⟩:=x;obtain⟨f_,hA⟩:=y;dsimp only at*;have bk:=hid (fun k w1=>GO k w1);unfold q0;dsimp only;rcases aL with rfl|rfl
 all_goals
  go_enter func188,ntmps188
  go_upto_region 24 with fail
  generalize ar:(w.alloc _).alloc _=W at*;obtain⟨aW,aS,aT⟩:=Kept.a6 ar;clear ar;have fO:=bd J aW.size;have lB:=aW.ad J kr;have lA:=aW.ad J kq;have oM:=aW.ad J mR;have oL:=aW.ad J mQ;have bQ:b≠w.heap.size:=by omega
  have aV:=hid (fun (k e:Int)=>hi k e aS aW (Nat.le_refl _));obtain⟨aC,a7,f1⟩:=aS.q;obtain⟨aM,bx⟩:=aT.p;by_cases I:f_=e5
  case neg=>
   have aA:(e5==f_)=false:=by simpa using (Ne.symm I)
   go_region
   all_goals
    go_wp2_with fail
    obtain⟨cC,al⟩:=aV.out 1 0;have cq:=cC.drew.cell;exact bodyPost_ret (v:= .tuple #[.agg #[.int .i64 1,()],.bool false]) (by simp[results,results188,go_sem,cq]) rfl ⟨(by simp[aA]),al.drew⟩
  subst I;by_cases U:hA=fK
  case neg=>
   have aA:(fK==hA)=false:=by simpa using (Ne.symm U)
   go_region
   all_goals
    go_wp2_with fail
    obtain⟨cC,al⟩:=aV.out 1 0;have cq:=cC.drew.cell;exact bodyPost_ret (v:= .tuple #[.agg #[.int .i64 1,()],.bool false]) (by simp[results,results188,go_sem,cq]) rfl ⟨(by simp[aA]),al.drew⟩
  subst U;have l1:=bk.out f_
  cases au:lU f_
  case false=>
   rw[au]at l1;have uR:=hid l1;have fM:=hid (show∀s∈([(22,w.heap.size,57,#[.int .i64 1,()])]:List ia),∃cs,ao W s.2.1 s.2.2.1 cs∧cs.size=s.2.2.2.size from by
    intro s ax;simp only[List.mem_cons,List.not_mem_nil,or_false]at ax;subst ax;exact⟨_,aS,rfl⟩)
   have iD:=hid (show∀g,g≠w.heap.size→∀s∈([(22,w.heap.size,57,#[.int .i64 1,()])]:List ia),g≠s.2.1 from by
    intro g ai s ax;simp only[List.mem_cons,List.not_mem_nil,or_false]at ax;subst ax;exact ai)
   have ep:=hid (show na [(22,w.heap.size,57,#[.int .i64 1,()])]from List.pairwise_singleton ..);have e3:=dc.cell (n:=24) (iD.out b bQ) fO lB;have ee:=dc.cell (n:=24) (iD.out b bQ) fO lA;have fW:=dc.cell (n:=24) (iD.out b bQ) fO oM;have mS:=dc.cell (n:=24) (iD.out b bQ) fO oL;have HG:w.heap.size+1≠w.heap.size:=by omega
   have td:=dc.cell (n:=24) (iD.out _ HG) bx (aM 0);have MJ:=dc.cell (n:=24) (iD.out _ HG) bx (aM 1);have NE:Nonempty (dc W 24 [(22,w.heap.size,57,#[.int .i64 1,()])]):=dc.ne fM.out;clear l1 aV lB lA oM oL aC a7 f1 aM bx;refine v_ (C:=gl W 24 [(22,w.heap.size,57,#[.int .i64 1,()])]) (by kernel_rfl) (by kernel_rfl) (by kernel_rfl) (fun _ _ h=>h.sZ) (gl.start fM.out) ?_;refine lu [_,_,_,_,_,_,_,_,_,_,_,_,_] [_,_,_,_,_,_,_,_,_,_,_] 0 _ rfl (by simp) ?_
   repeat (go_big_quiet_step (exact rfl))
   refine wpQuiet_nil ?_;apply Q8 (.bool false) (by simp) rfl
   ·intro X;go_big_quiet_step (first|(go_at_call 205;exact xS.pure (uR.out _)))
    exact wpQuiet_nil rfl
   ·exact fun u hu=>by simpa[Act.put] using hu
   refine lu [_,_,_,_,_,_,_,_] [_,_] _ _ rfl (by simp) ?_
   repeat (go_big_quiet_step (exact rfl))
   refine wpQuiet_nil ?_;refine nx (g:=w.heap.size) (T:=57) (cs:=[.int .i64 1,.int .i64 0]) (by simp) (ep.out.apart _ (by simp)) rfl rfl rfl rfl rfl (by kernel_rfl) rfl ?_;refine lu [_] [] _ _ rfl (by simp) ?_
   repeat (go_big_quiet_step (exact rfl))
   refine wpQuiet_nil ?_;refine vN ?_;intro wC hZ jq fi;have mT:=fi.new jq (s:=(22,_,_,_)) (by simp;exact⟨rfl,rfl,rfl⟩) (by simp only;omega);have hL:=hid (fi.kept aW (fun s ax=>by simp only[List.mem_cons,List.not_mem_nil,or_false]at ax;subst ax;exact Nat.le_refl _));go_wp2_with fail
   have cq:=mT.cell;exact bodyPost_ret (v:= .tuple #[.agg #[.int .i64 1,()],.bool (f_==5)]) (by simp[results,results188,go_sem,cq]) rfl ⟨(by simp),hL.out⟩
  case true=>
   rw[au]at l1;have uR:=hid l1;have fM:=hid (show∀s∈([(22,w.heap.size,57,#[.int .i64 1,()])]:List ia),∃cs,ao W s.2.1 s.2.2.1 cs∧cs.size=s.2.2.2.size from by
    intro s ax;simp only[List.mem_cons,List.not_mem_nil,or_false]at ax;subst ax;exact⟨_,aS,rfl⟩)
   have iD:=hid (show∀g,g≠w.heap.size→∀s∈([(22,w.heap.size,57,#[.int .i64 1,()])]:List ia),g≠s.2.1 from by
    intro g ai s ax;simp only[List.mem_cons,List.not_mem_nil,or_false]at ax;subst ax;exact ai)
   have ep:=hid (show na [(22,w.heap.size,57,#[.int .i64 1,()])]from List.pairwise_singleton ..);have e3:=dc.cell (n:=24) (iD.out b bQ) fO lB;have ee:=dc.cell (n:=24) (iD.out b bQ) fO lA;have fW:=dc.cell (n:=24) (iD.out b bQ) fO oM;have mS:=dc.cell (n:=24) (iD.out b bQ) fO oL;have HG:w.heap.size+1≠w.heap.size:=by omega
   have td:=dc.cell (n:=24) (iD.out _ HG) bx (aM 0);have MJ:=dc.cell (n:=24) (iD.out _ HG) bx (aM 1);have NE:Nonempty (dc W 24 [(22,w.heap.size,57,#[.int .i64 1,()])]):=dc.ne fM.out;clear l1 aV lB lA oM oL aC a7 f1 aM bx;refine v_ (C:=gl W 24 [(22,w.heap.size,57,#[.int .i64 1,()])]) (by kernel_rfl) (by kernel_rfl) (by kernel_rfl) (fun _ _ h=>h.sZ) (gl.start fM.out) ?_;refine lu [_,_,_,_,_,_,_,_,_,_,_,_,_] [_,_,_,_,_,_,_,_,_,_,_] 0 _ rfl (by simp) ?_
   repeat (go_big_quiet_step (exact rfl))
   refine wpQuiet_nil ?_;apply Q8 (.bool true) (by simp) rfl
   ·intro X;go_big_quiet_step (first|(go_at_call 205;exact xS.pure (uR.out _)))
    exact wpQuiet_nil rfl
   ·exact fun u hu=>by simpa[Act.put] using hu
   refine lu [_,_,_,_,_,_,_,_] [_,_] _ _ rfl (by simp) ?_
   repeat (go_big_quiet_step (exact rfl))
   refine wpQuiet_nil ?_;refine nx (g:=w.heap.size) (T:=57) (cs:=[.int .i64 1,.int .i64 0]) (by simp) (ep.out.apart _ (by simp)) rfl rfl rfl rfl rfl (by kernel_rfl) rfl ?_;refine lu [_] [] _ _ rfl (by simp) ?_
   repeat (go_big_quiet_step (exact rfl))
   refine wpQuiet_nil ?_;refine vN ?_;intro wC hZ jq fi;have mT:=fi.new jq (s:=(22,_,_,_)) (by simp;exact⟨rfl,rfl,rfl⟩) (by simp only;omega);have hL:=hid (fi.kept aW (fun s ax=>by simp only[List.mem_cons,List.not_mem_nil,or_false]at ax;subst ax;exact Nat.le_refl _));go_wp2_with fail
   have cq:=mT.cell;exact bodyPost_ret (v:= .tuple #[.agg #[.int .i64 1,()],.bool true]) (by simp[results,results188,go_sem,cq]) rfl ⟨(by simp),hL.out⟩
theorem ajZ {w:World} {ba:List cO} {b off:Nat} (J:b<w.heap.size) (ah:∀j t,ba[j]?=some t→w.cell? ⟨b,off+j*2,none⟩=some (.int .i64 t.k)∧w.cell? ⟨b,off+j*2+1,none⟩=some (.int .i64 t.e)):
  ru w b off ba.length (ba[0]?.getD t0) (ba[1]?.getD t0) (ba[2]?.getD t0):=by
 have key:∀j,j+1≤ba.length→w.cell? ⟨b,off+j*2,none⟩=some (.int .i64 (ba[j]?.getD t0).k)∧w.cell? ⟨b,off+j*2+1,none⟩=some (.int .i64 (ba[j]?.getD t0).e):=fun j aB=>by
  have e:ba[j]?=some (ba[j]'(by omega)):=a8 _;rw[e];exact ah j _ e
 exact⟨J,fun h=>key 0 h,fun h=>key 1 h,fun h=>key 2 h⟩
theorem ah7 (op:Int) (bT:Value) (ba:List cO) (w:World) (bl:kb w bT ba) (nZ:dY op=ba.length) (aH:10≤op∧op≤32):Calls prog 188 #[op,bT] w (jc (iK op (ba[0]?.getD t0) (ba[1]?.getD t0) (ba[2]?.getD t0)) w):=by
 obtain⟨A,cap,rfl,af⟩:=bl.at_;have I:(op=10∨op=25∨op=31∨op=32)∧ba.length=1∨op=26∧ba.length=3∨(11≤op∧op≤30∧op≠25∧op≠26)∧ba.length=2:=by
  unfold dY at nZ;split at nZ
  ·omega
  ·split at nZ
   ·omega
   ·split at nZ
    ·omega
    ·split at nZ<;>omega
 have hp:0<ba.length:=by omega
 obtain⟨b,off,rfl,J,ah⟩:=af hp;have hC:=ajZ J ah;generalize ba[0]?.getD t0=x at*;generalize ba[1]?.getD t0=y at*;generalize ba[2]?.getD t0=z at*;rcases I with⟨h,e⟩|⟨h,e⟩|⟨h,e⟩<;>rw[e]at hC⊢
 ·rcases h with h|h|h
  ·exact aif op h b off cap x y z w hC
  ·exact aio op h b off cap x y z w hC
  ·exact ais op h b off cap x y z w hC
 ·exact aip op h b off cap x y z w hC
 ·have U:(op=11∨op=12)∨(op=13∨op=14∨op=15)∨op=16∨(op=17∨op=18)∨(op=19∨op=20)∨(op=21∨op=22)∨(op=23∨op=24)∨(op=27∨op=28)∨(op=29∨op=30):=by omega
  rcases U with h|h|h|h|h|h|h|h|h
  ·exact aih op h b off cap x y z w hC
  ·exact aii op h b off cap x y z w hC
  ·exact aij op h b off cap x y z w hC
  ·exact aik op h b off cap x y z w hC
  ·exact ail op h b off cap x y z w hC
  ·exact aim op h b off cap x y z w hC
  ·exact ain op h b off cap x y z w hC
  ·exact aiq op h b off cap x y z w hC
  ·exact air op h b off cap x y z w hC
def r0 (c:UInt8):Bool:=decide (97≤c.toNat)&&decide (c.toNat≤122)
def qa (c:UInt8):Bool:=r0 c||(xg c||decide (c.toNat=95))
def mI (p:UInt8→Bool):List UInt8→Nat
 |[]=>0
 |c::r=>if p c then mI p r+1 else 0
theorem agx (p:UInt8→Bool) (l:List UInt8):mI p l≤l.length:=by
 induction l with
 |nil=>exact Nat.le_refl _
 |cons c r bH=>
  rw[mI];split
  ·rw[List.length_cons];omega
  ·exact Nat.zero_le _
theorem agv {p:UInt8→Bool} {l:List UInt8}:(l.take (mI p l)).all p=true:=by
 induction l with
 |nil=>rfl
 |cons c r bH=>
  rw[mI];by_cases hp:p c=true
  ·rw[if_pos hp,List.take_succ_cons,List.all_cons,hp,bH];rfl
  ·rw[if_neg hp];rfl
theorem agw {p:UInt8→Bool} {a b:List UInt8} (aZ:a.all p=true) (J:b.head?=none∨∃c,b.head?=some c∧p c=false):mI p (a++b)=a.length:=by
 induction a with
 |nil=>
  cases b with
  |nil=>rfl
  |cons c r=>
   rcases J with J|⟨d,av,hp⟩
   ·cases J
   ·have:c=d:=Option.some.inj av;subst this;rw[List.nil_append,mI,hp];rfl
 |cons c r bH=>
  simp only[List.all_cons,Bool.and_eq_true]at aZ;rw[List.cons_append,mI,if_pos aZ.1,bH aZ.2,List.length_cons]
theorem E1 (c:UInt8) (w:World):Calls prog 85 #[.int .u8 c.toNat] w fun e w'=>e= .returned (.bool (r0 c))∧w=w':=by
 by_cases h:97≤c.toNat
 ·have aI:=Lib.hid (show r0 c=decide ((c.toNat:Int)≤122) by simp[r0,h];omega);go_enter func85,ntmps85
  go_wp2_with fail
  go_ret;exact⟨eD aI.out.symm,rfl⟩
 ·have aI:=Lib.hid (show r0 c=false by simp[r0,h]);go_enter func85,ntmps85
  go_wp2_with fail
  go_ret;exact⟨eD aI.out.symm,rfl⟩
theorem Y9 (c:UInt8) (w:World):Calls prog 114 #[.int .u8 c.toNat] w fun e w'=>e= .returned (.bool (xg c))∧w=w':=by
 by_cases h:48≤c.toNat
 ·have aI:=Lib.hid (show xg c=decide ((c.toNat:Int)≤57) by simp[xg,h];omega);go_enter func114,ntmps114
  go_wp2_with fail
  go_ret;exact⟨eD aI.out.symm,rfl⟩
 ·have aI:=Lib.hid (show xg c=false by simp[xg,h]);go_enter func114,ntmps114
  go_wp2_with fail
  go_ret;exact⟨eD aI.out.symm,rfl⟩
theorem agz {p:UInt8→Bool} {s:ByteArray} {i n k:Nat} (aE:i<s.size) (hp:p (s[i]'aE)=true) (h:n=k+mI p ((L s).drop i)):n=k+1+mI p ((L s).drop (i+1)):=by
 rw[h,T7 s i aE,mI,if_pos hp];omega
theorem agA {p:UInt8→Bool} {s:ByteArray} {i n k:Nat} (aE:i<s.size) (hp:p (s[i]'aE)=false) (h:n=k+mI p ((L s).drop i)):n=k:=by
 rw[h,T7 s i aE,mI,hp];rfl
theorem agy {p:UInt8→Bool} {s:ByteArray} {i n k:Nat} (aE:¬i<s.size) (h:n=k+mI p ((L s).drop i)):n=k:=by
 rw[h,List.drop_of_length_le (by rw[zv];omega)];rfl
theorem akw (c:UInt8):(r0 c=true∧qa c=true)∨(r0 c=false∧xg c=true∧qa c=true)∨(r0 c=false∧xg c=false∧((c.toNat:Int)==95)=true∧qa c=true)∨(r0 c=false∧xg c=false∧((c.toNat:Int)==95)=false∧qa c=false):=by
 have e:((c.toNat:Int)==95)=decide (c.toNat=95):=by
  rw[Bool.eq_iff_iff,beq_iff_eq,decide_eq_true_eq];omega
 unfold qa;rw[e]
 cases r0 c<;>cases xg c<;>cases decide (c.toNat=95)<;>simp
theorem ahb (s:ByteArray) (ax:s.size≤140737488355328) (w:World):
  Calls prog 86 #[s] w fun e w'=>e= .returned (.int .i64 (mI qa (L s)))∧w=w':=by
 go_enter func86,ntmps86
 go_wp2_with fail
 go_loop [3] (fun x=>∃k:Nat,x= .int .i64 (k:Int)∧k≤s.size∧mI qa (L s)=k+mI qa ((L s).drop k)) (fun x=>s.size-(intOf x).toNat)
 case atStart=>exact⟨0,rfl,Nat.zero_le _,by simp⟩
 case round=>
  obtain⟨k,rfl,aa,aH⟩:=hrel;by_cases aD:k<s.size
  ·rcases akw (s[k]'aD)with⟨I,U⟩|⟨aj,I,U⟩|⟨aj,I,ae,U⟩|⟨aj,I,ae,U⟩
   iterate 3
    ·have aI:=Lib.hid (agz aD U aH);clear aH U;go_wp2_with (first|(go_at_call 114;refine (Y9 _ _).mono ?_;rintro e w' ⟨rfl,rfl⟩)|(go_at_call 85;refine (E1 _ _).mono ?_;rintro e w' ⟨rfl,rfl⟩))
     go_round
     case rel=>exact⟨k+1,by go_num,aD,aI.out⟩
     case measure=>simp[intOf];omega
   ·have aI:=Lib.hid (agA aD U aH);clear aH U;go_wp2_with (first|(go_at_call 114;refine (Y9 _ _).mono ?_;rintro e w' ⟨rfl,rfl⟩)|(go_at_call 85;refine (E1 _ _).mono ?_;rintro e w' ⟨rfl,rfl⟩))
    go_ret;exact⟨uz (by rw[aI.out]),rfl⟩
  ·have aI:=Lib.hid (agy aD aH);clear aH;go_wp2_with fail
   go_ret;exact⟨uz (by rw[aI.out]),rfl⟩
def aak:List (List UInt8):=[[105,102],
 [116,104,101,110],
 [101,108,115,101],
 [111,114],
 [97,110,100],
 [110,111,116],
 [116,114,117,101],
 [102,97,108,115,101],
 [116,111,100,97,121],
 [115,104,97,114,101],
 [100,105,118],
 [114,111,117,110,100],
 [109,105,110],
 [109,97,120],
 [112,108,117,115],
 [109,111,110,116,104,115],
 [100,97,121,115],
 [121,101,97,114,115],
 [121,101,97,114],
 [109,111,110,116,104],
 [116,97,98],
 [98,97,110,100],
 [99,111,117,110,116],
 [115,117,109],
 [97,108,108],
 [97,110,121],
 [109,111,115,116],
 [101,110,117,109],
 [116,97,98,108,101],
 [114,111,119],
 [115,99,111,112,101],
 [109,101,109,98,101,114,115],
 [105,110,112,117,116],
 [100,101,102],
 [114,117,108,101],
 [111,102],
 [111,118,101,114],
 [112,114,105,111],
 [102,114,111,109],
 [116,111],
 [101,110,100],
 [119,104,101,110],
 [105,115],
 [115,114,99],
 [98,111,111,108],
 [105,110,116],
 [109,111,110,101,121],
 [114,97,116,101],
 [100,97,116,101],
 [100,111,119,110],
 [117,112],
 [122,101,114,111],
 [97,119,97,121],
 [104,97,108,102],
 [101,118,101,110]]
def AH (l:List UInt8):Bool:=aak.contains l
theorem ah6 (s:ByteArray):AH (L s)=((s.toList==[105,102])||((s.toList==[116,104,101,110])||((s.toList==[101,108,115,101])||((s.toList==[111,114])||((s.toList==[97,110,100])||((s.toList==[110,111,116])||((s.toList==[116,114,117,101])||((s.toList==[102,97,108,115,101])||((s.toList==[116,111,100,97,121])||((s.toList==[115,104,97,114,101])||((s.toList==[100,105,118])||((s.toList==[114,111,117,110,100])||((s.toList==[109,105,110])||((s.toList==[109,97,120])||((s.toList==[112,108,117,115])||((s.toList==[109,111,110,116,104,115])||((s.toList==[100,97,121,115])||((s.toList==[121,101,97,114,115])||((s.toList==[121,101,97,114])||((s.toList==[109,111,110,116,104])||((s.toList==[116,97,98])||((s.toList==[98,97,110,100])||((s.toList==[99,111,117,110,116])||((s.toList==[115,117,109])||((s.toList==[97,108,108])||((s.toList==[97,110,121])||((s.toList==[109,111,115,116])||((s.toList==[101,110,117,109])||((s.toList==[116,97,98,108,101])||((s.toList==[114,111,119])||((s.toList==[115,99,111,112,101])||((s.toList==[109,101,109,98,101,114,115])||((s.toList==[105,110,112,117,116])||((s.toList==[100,101,102])||((s.toList==[114,117,108,101])||((s.toList==[111,102])||((s.toList==[111,118,101,114])||((s.toList==[112,114,105,111])||((s.toList==[102,114,111,109])||((s.toList==[116,111])||((s.toList==[101,110,100])||((s.toList==[119,104,101,110])||((s.toList==[105,115])||((s.toList==[115,114,99])||((s.toList==[98,111,111,108])||((s.toList==[105,110,116])||((s.toList==[109,111,110,101,121])||((s.toList==[114,97,116,101])||((s.toList==[100,97,116,101])||((s.toList==[100,111,119,110])||((s.toList==[117,112])||((s.toList==[122,101,114,111])||((s.toList==[97,119,97,121])||((s.toList==[104,97,108,102])||((s.toList==[101,118,101,110])))))))))))))))))))))))))))))))))))))))))))))))))))))))):=by
 rw[CP];simp only[AH,aak,List.contains_cons,List.contains_nil,Bool.or_false]
theorem ah8 (s:ByteArray) (w:World):
  Calls prog 87 #[s] w fun e w'=>e= .returned (.bool (AH (L s)))∧w=w':=by
 have cD:=Lib.hid (ah6 s);generalize AH (L s)=R at*;go_enter func87,ntmps87
 go_wp2_with fail
 all_goals first
  |(rename_i a b;rw[a]at b;exact absurd b (by decide))
  |(go_ret;exact⟨eD (by rw[cD.out];simp[*]),rfl⟩)
def Lx (l:List UInt8):Bool:=match l.head? with
 |some c=>r0 c
 |none=>false
def lr (l:List UInt8):Bool:=decide (0<l.length)&&(decide (l.length≤16)&&(Lx l&&(l.all qa&& !AH l)))
theorem agu (p:UInt8→Bool) (l:List UInt8):mI p l=l.length↔l.all p=true:=by
 constructor
 ·intro h;have:=agv (p:=p) (l:=l);rwa [h,List.take_length]at this
 ·intro h;have:=agw (p:=p) (a:=l) (b:=[]) h (.inl rfl);simpa using this
theorem HX (s:ByteArray) (ax:s.size≤140737488355328) (w:World):
  Calls prog 60 #[s] w fun e w'=>e= .returned (.bool (lr (L s)))∧w=w':=by
 have hid:lr (L s)=(decide (0<s.size)&&(decide (s.size≤16)&&(Lx (L s)&&((L s).all qa&& !AH (L s))))):=rfl;by_cases aj:0<s.size
 ·have rL:Lx (L s)=r0 (s[0]'aj):=by
   unfold Lx;rw[List.head?_eq_getElem?,T8 s 0 aj]
  have bQ:(s.toList !=[])=true:=by
   rw[CP,bne_iff_ne];intro e;have:=congrArg List.length e;rw[zv,List.length_nil]at this;omega
  have XR:(s.toList==[])=false:=by
   rw[CP,beq_eq_false_iff_ne];intro e;have:=congrArg List.length e;rw[zv,List.length_nil]at this;omega
  have w9:=agu qa (L s);rw[zv]at w9;have bk:=Lib.hid (fun w=>ahb s ax w);have lG:=Lib.hid (fun w=>ah8 s w);have KB:(0:Int)<s.size:=by omega
  rw[rL,decide_eq_true aj]at hid;have hle:=agx qa (L s);rw[zv]at hle
  cases aq:r0 (s[0]'aj)
  ·have aI:=Lib.hid (show lr (L s)=false by rw[hid,aq];simp);clear hid rL w9;go_enter func60,ntmps60
   go_wp2_with (go_at_call 85;refine (E1 _ _).mono ?_;rintro e w' ⟨rfl,rfl⟩)
   go_ret;exact⟨eD aI.out.symm,rfl⟩
  ·by_cases hw:mI qa (L s)=s.size
   ·rw[aq,w9.1 hw]at hid;rw[hw]at bk;have aI:=Lib.hid (show lr (L s)=(decide (s.size≤16)&& !AH (L s)) by rw[hid];simp);generalize AH (L s)=R at*;by_cases Pd:s.size≤16
    ·have aeH:(s.size:Int)≤16:=by omega
     have iu:=Lib.hid (show lr (L s)= !R by rw[aI.out,decide_eq_true Pd];rfl);clear hid rL w9 hw
     cases R
     all_goals
      go_enter func60,ntmps60
      go_wp2_with (first
       |(go_at_call 85;refine (E1 _ _).mono ?_;rintro e w' ⟨rfl,rfl⟩)
       |(go_at_call 86;refine (bk.out _).mono ?_;rintro e w' ⟨rfl,rfl⟩)
       |(go_at_call 87;refine (lG.out _).mono ?_;rintro e w' ⟨rfl,rfl⟩))
      go_ret;exact⟨eD iu.out.symm,rfl⟩
    ·have aeH:¬((s.size:Int)≤16):=by omega
     have iu:=Lib.hid (show lr (L s)=false by rw[aI.out,decide_eq_false Pd];rfl);clear hid rL w9 hw;go_enter func60,ntmps60
     go_wp2_with (first
      |(go_at_call 85;refine (E1 _ _).mono ?_;rintro e w' ⟨rfl,rfl⟩)
      |(go_at_call 86;refine (bk.out _).mono ?_;rintro e w' ⟨rfl,rfl⟩)
      |(go_at_call 87;refine (lG.out _).mono ?_;rintro e w' ⟨rfl,rfl⟩))
     go_ret;exact⟨eD iu.out.symm,rfl⟩
   ·have ht:(L s).all qa=false:=by
     rw[Bool.eq_false_iff];intro e;exact hw (w9.2 e)
    have aI:=Lib.hid (show lr (L s)=false by rw[hid,ht];simp);have hwb:((mI qa (L s):Int)==s.size)=false:=by rw[beq_eq_false_iff_ne];omega
    clear hid rL w9 hw ht;generalize mI qa (L s)=n at*;go_enter func60,ntmps60
    go_wp2_with (first
     |(go_at_call 85;refine (E1 _ _).mono ?_;rintro e w' ⟨rfl,rfl⟩)
     |(go_at_call 86;refine (bk.out _).mono ?_;rintro e w' ⟨rfl,rfl⟩))
    go_ret;exact⟨eD aI.out.symm,rfl⟩
 ·have aI:=Lib.hid (show lr (L s)=false by rw[hid,decide_eq_false aj];rfl);have ck:s.size=0:=by omega
  have bQ:(s.toList !=[])=false:=by
   rw[CP,List.length_eq_zero_iff.1 (show (L s).length=0 from ck)];rfl
  have XR:(s.toList==[])=true:=by
   rw[CP,List.length_eq_zero_iff.1 (show (L s).length=0 from ck)];rfl
  clear hid ck;go_enter func60,ntmps60
  go_wp2_with fail
  go_ret;exact⟨eD aI.out.symm,rfl⟩
theorem qq.strs {w:World} {v:Value} {xs:List ByteArray} (h:qq w v xs):vc w v xs:=by
 obtain⟨A,cap,ay,ah,aq,af⟩:=h;refine⟨A,cap,ay,fun hp=> ?_⟩;obtain⟨b,off,aK,J,fH⟩:=af hp;refine⟨b,off,aK,J,fun j aB=> ?_⟩;have ai:xs[j]?=some xs[j]:=a8 aB;have:=(fH j _ ai).1;rw[ai];unfold ed at this;rwa [Nat.mul_one]at this
def cZ.ms (l:cZ):List (List ByteArray):=l.bm.map (·.mem)
def cZ.c1 (l:cZ):List sz:=l.sc.map fun s=>⟨s.ms,s.ins.map fun f=>⟨f.k,f.e⟩⟩
theorem Kw {w:World} {v:Value} {xs:List mo} (h:cH 2 n_ w v xs):Enums w v (xs.map (·.mem)):=by
 obtain⟨A,cap,ay,ah,aq,af⟩:=h;refine⟨A,cap,by rw[List.length_map];exact ay,by rw[List.length_map];omega,fun hp=> ?_⟩;rw[List.length_map]at hp;obtain⟨b,off,aK,J,fH⟩:=af hp;refine⟨b,off,aK,J,fun j l aB=> ?_⟩;rw[List.getElem?_map]at aB;obtain⟨x,ai,rfl⟩:=Option.map_eq_some_iff.1 aB;obtain⟨-,⟨bW,I,U⟩⟩:=fH j x ai;obtain⟨_,_,_,_,mE,_⟩:=id U;exact⟨by omega,bW,I,U.strs⟩
theorem aev {w:World} {v:Value} {xs:List lE} (h:cH 3 fL w v xs):th w v (xs.map fun f=>⟨f.k,f.e⟩):=by
 obtain⟨A,cap,ay,ah,aq,af⟩:=h;refine⟨A,cap,by rw[List.length_map];exact ay,fun hp=> ?_⟩;rw[List.length_map]at hp;obtain⟨b,off,aK,J,fH⟩:=af hp;refine⟨b,off,aK,J,fun j l aB=> ?_⟩;rw[List.getElem?_map]at aB;obtain⟨x,ai,rfl⟩:=Option.map_eq_some_iff.1 aB;obtain⟨-,I,U⟩:=fH j x ai;exact⟨I.1,U.1⟩
theorem ai6 {w:World} {v:Value} {xs:List bP} (h:cH 5 sA w v xs):zA w v (xs.map fun s=>⟨s.ms,s.ins.map fun f=>⟨f.k,f.e⟩⟩):=by
 obtain⟨A,cap,ay,ah,aq,af⟩:=h;refine⟨A,cap,by rw[List.length_map];exact ay,by rw[List.length_map];omega,fun hp=> ?_⟩;rw[List.length_map]at hp;obtain⟨b,off,aK,J,fH⟩:=af hp;refine⟨b,off,aK,J,fun j l aB=> ?_⟩;rw[List.getElem?_map]at aB;obtain⟨x,ai,rfl⟩:=Option.map_eq_some_iff.1 aB;obtain⟨-,I,⟨bo,U,ae⟩,-⟩:=fH j x ai;obtain⟨_,_,_,_,mE,_⟩:=id ae;exact⟨by rw[List.length_map];omega,I.1,bo,U,aev ae⟩
theorem gy.Y2 {w:World} {v:Value} {l:cZ} (h:gy w v l):Gb w v l.ms l.c1:=by
 obtain⟨c_,b4,b2,rfl,aj,I,U⟩:=h;obtain⟨At,gX,rfl,-⟩:=id I;exact⟨c_,At,_,gX,b2,rfl,Kw aj,ai6 U⟩
theorem cH.Iz {α:Type} {k:Nat} {P:World→Nat→Nat→α→Prop} {p:World→Nat→Nat→Prop} {w:World} {v:Value} {xs:List α} (h:cH k P w v xs) (hp:∀b o x,P w b o x→p w b o):pA w k p v:=by
 obtain⟨A,cap,ay,ah,aq,af⟩:=h;refine⟨A,_,cap,ay,by omega,fun Ey=> ?_⟩;obtain⟨b,off,aK,J,fH⟩:=af Ey;exact⟨b,off,aK,J,fun j aB=>hp _ _ _ (fH j _ (a8 aB))⟩
theorem cH.ai0 {α:Type} {k:Nat} {P:World→Nat→Nat→α→Prop} {w:World} {b o:Nat} {xs:List α} (h:qn (cH k P) w b o xs):wG w b o:=by
 obtain⟨v,I,⟨A,cap,rfl,_,aq,_⟩⟩:=h;exact⟨A,_,cap,I,by omega⟩
theorem gy.agd {w:World} {v:Value} {l:cZ} (h:gy w v l):JA w v:=by
 obtain⟨c_,b4,b2,rfl,aj,I,U⟩:=h;have kE:∀b o (xs:List cz),qn kt w b o xs→wG w b o:=fun b o xs ⟨u,I,⟨A,cap,U,_⟩,ae,_⟩=>by
  subst U;exact⟨A,_,cap,I,by omega⟩
 have oy:∀b o (xs:List lE),qn (cH 3 fL) w b o xs→∃v,w.cell? ⟨b,o,none⟩=some v∧pA w 3 jD v:=fun b o xs ⟨u,I,U⟩=>⟨u,I,U.Iz (fun _ _ x af=>⟨x.ag,af.1.1⟩)⟩;refine⟨c_,b4,b2,rfl,aj.Iz (fun _ _ x af=>⟨x.ag,af.1.1⟩),I.Iz (fun _ _ x af=>⟨⟨x.ag,af.1.1⟩,cH.ai0 af.2.2.2.2.2⟩),U.Iz (fun b o x af=> ?_)⟩;obtain⟨b5,aC,aM,a1,⟨u,bN,bJ⟩⟩:=af;refine⟨⟨x.ag,b5.1⟩,⟨x.ms,aC.1⟩,oy _ _ _ aM,oy _ _ _ a1,u,bN,bJ.Iz (fun b o y db=> ?_)⟩;obtain⟨d0,d1,d2,d3,d4,d5,d6,d7,d8⟩:=db;exact⟨⟨_,d0.1⟩,⟨_,d1.1⟩,⟨_,d2.1⟩,⟨_,d3.1⟩,⟨_,d4.1⟩,⟨_,d5.1⟩,kE _ _ _ d6,kE _ _ _ d7,⟨_,d8.1⟩⟩
def dE (q:Prop) (w:World) (e:Ending) (w':World):Prop:=∃b:Bool,e= .returned (.bool b)∧(b=true↔q)∧Kept w w'
theorem dE.yes {q:Prop} {w w':World} (au:q) (aa:Kept w w'):dE q w (.returned (.bool true)) w':=⟨true,rfl,iff_of_true rfl au,aa⟩
theorem dE.no {q:Prop} {w w':World} (au:¬q) (aa:Kept w w'):dE q w (.returned (.bool false)) w':=⟨false,rfl,iff_of_false (by simp) au,aa⟩
theorem fr {a b:Int} (h:a≠b):(a==b)=false∧(a !=b)=true:=⟨by simpa using h,by simpa using h⟩
theorem Ms {α:Type} {xs bh:List α} {i:Nat} {x:α} (h:xs.take i=bh.take i) (I:xs[i]?=some x) (U:bh[i]?=some x):xs.take (i+1)=bh.take (i+1):=by
 rw[List.take_add_one,List.take_add_one,I,U,h]
theorem at_differ {α:Type} {xs bh:List α} {i:Nat} {x y:α} (I:xs[i]?=some x) (U:bh[i]?=some y) (h:x≠y):¬xs=bh:=fun e=>by
 rw[e,U]at I;exact h (Option.some.inj I).symm
theorem Vv (e_ fm:Value) (xs bh:List cz) (w:World) (aZ:kt w e_ xs) (J:kt w fm bh):Calls prog 32 #[e_,fm] w (dE (xs=bh) w):=by
 obtain⟨A,oo,rfl,aK⟩:=aZ.1.at_;obtain⟨B,qw,rfl,aU⟩:=J.1.at_;have af:=aZ.2.1;by_cases aq:xs.length=bh.length
 ·obtain⟨n,fj⟩:∃n,n=xs.length:=⟨_,rfl⟩;have jL:n=bh.length:=fj.trans aq;rw[←fj]at aK af⊢;rw[←jL]at aU⊢;have bn:=hid fj;have hM:=hid jL;have bz:=hid (fun h:¬xs=bh=>h);have cv:=hid (fun (i:Nat) (x y:cz) (I:xs[i]?=some x) (U:bh[i]?=some y) (h:x≠y)=>at_differ I U h);have aV:=hid (show xs.take n=bh.take n→xs=bh from fun h=>by rw[List.take_of_length_le (by omega),List.take_of_length_le (by omega)]at h;exact h);clear fj jL aZ J aq;go_enter func32,ntmps32
  go_wp2_with fail
  go_loopw [13] (fun z wr=>∃i:Nat,i≤n∧z= .int .i64 i∧Kept w wr∧xs.take i=bh.take i) (fun z _=>(n-intOf z).toNat)
  case atStart=>exact⟨0,Nat.zero_le _,rfl,aQ _,rfl⟩
  case round=>
   obtain⟨i,de,rfl,ab,aG⟩:=hrel;have dd:=hid aG;clear aG;by_cases hp:i<n
   ·obtain⟨bY,jv,rfl,ea,cx⟩:=aK (by omega);obtain⟨bc,k4,rfl,dK,fE⟩:=aU (by omega);have e2:xs[i]?=some (xs[i]'(by have:=bn.out;omega)):=a8 _;have dT:bh[i]?=some (bh[i]'(by have:=hM.out;omega)):=a8 _;obtain⟨b5,aC⟩:=cx i _ e2;obtain⟨d0,d1⟩:=fE i _ dT;have cp:=hid (fun (h:bh[i]?=some (xs[i]'(by have:=bn.out;omega)))=>Ms dd.out e2 h);have cB:=hid (cv.out i _ _ e2 dT);have sk:=hid dT;clear cx fE aK aU e2 dT cv;generalize xs[i]'(by have:=bn.out;omega)=X at*;generalize bh[i]'(by have:=hM.out;omega)=Y at*;have gE:=bd ea ab.size;have gh:=bd dK ab.size;have mH:=al.cell gE (ab.ad ea b5);have m0:=al.cell gh (ab.ad dK d0);have ak:=al.cell gE (ab.ad ea aC);have m1:=al.cell gh (ab.ad dK d1);clear b5 d0 aC d1;have rQ:(i:Int)<n:=by omega
    obtain⟨bZ,b3⟩:=X;obtain⟨e3,ee⟩:=Y;dsimp only at mH m0 ak m1;by_cases aj:bZ=e3
    case neg=>
     have bk:=hid (cB.out (fun e=>aj (by injection e)));obtain⟨aO,aN⟩:=fr aj;have eB:=hid aj;clear aj;go_wp2_with fail
     refine fQ (by kernel_rfl) (by kernel_rfl) ?_
     repeat (go_big_quiet_step (fail))
     refine wpQuiet_nil ?_;rintro cf ⟨⟨bt,cj⟩,bb⟩;obtain rfl:cf=bt:=bb;go_wp2_with fail
     go_ret;exact dE.no bk.out (ab.trans cj)
    subst aj;by_cases I:b3=ee
    case neg=>
     have bk:=hid (cB.out (fun e=>I (by injection e)));obtain⟨aO,aN⟩:=fr I;have eB:=hid I;clear I;go_wp2_with fail
     refine fQ (by kernel_rfl) (by kernel_rfl) ?_
     repeat (go_big_quiet_step (fail))
     refine wpQuiet_nil ?_;rintro cf ⟨⟨bt,cj⟩,bb⟩;obtain rfl:cf=bt:=bb;go_wp2_with fail
     go_ret;exact dE.no bk.out (ab.trans cj)
    subst I;go_wp2_with fail
    refine fQ (by kernel_rfl) (by kernel_rfl) ?_
    repeat (go_big_quiet_step (fail))
    refine wpQuiet_nil ?_;rintro cf ⟨⟨bt,cj⟩,bb⟩;obtain rfl:cf=bt:=bb;go_wp2_with fail
    go_roundw
    case rel=>exact⟨i+1,hp,by go_num,ab.trans cj,cp.out sk.out⟩
    case measure=>simp only[intOf];omega
   ·have rQ:¬((i:Int)<n):=by omega
    obtain rfl:i=n:=by omega
    go_wp2_with fail
    go_ret;exact dE.yes (aV.out dd.out) ab
 ·have bk:=hid (fun e:xs=bh=>aq (by rw[e]));have pP:((xs.length:Int) !=bh.length)=true:=(fr (by omega)).2;clear aq aZ J aK aU;go_enter func32,ntmps32
  go_wp2_with fail
  go_ret;exact dE.no bk.out (aQ _)
theorem aek (e_ fm:Value) (xs bh:List kT) (w:World) (aZ:cH 5 jZ w e_ xs) (J:cH 5 jZ w fm bh):Calls prog 65 #[e_,fm] w (dE (xs=bh) w):=by
 obtain⟨A,oo,rfl,-,af,aK⟩:=aZ;obtain⟨B,qw,rfl,-,-,aU⟩:=J;by_cases aq:xs.length=bh.length
 ·obtain⟨n,fj⟩:∃n,n=xs.length:=⟨_,rfl⟩;have jL:n=bh.length:=fj.trans aq;rw[←fj]at aK af⊢;rw[←jL]at aU⊢;have bn:=hid fj;have hM:=hid jL;have bz:=hid (fun h:¬xs=bh=>h);have cv:=hid (fun (i:Nat) (x y:kT) (I:xs[i]?=some x) (U:bh[i]?=some y) (h:x≠y)=>at_differ I U h);have aV:=hid (show xs.take n=bh.take n→xs=bh from fun h=>by rw[List.take_of_length_le (by omega),List.take_of_length_le (by omega)]at h;exact h);clear fj jL aq;go_enter func65,ntmps65
  go_wp2_with fail
  go_loopw [13] (fun z wr=>∃i:Nat,i≤n∧z= .int .i64 i∧Kept w wr∧xs.take i=bh.take i) (fun z _=>(n-intOf z).toNat)
  case atStart=>exact⟨0,Nat.zero_le _,rfl,aQ _,rfl⟩
  case round=>
   obtain⟨i,de,rfl,ab,aG⟩:=hrel;have dd:=hid aG;clear aG;by_cases hp:i<n
   ·obtain⟨bY,jv,rfl,ea,cx⟩:=aK (by omega);obtain⟨bc,k4,rfl,dK,fE⟩:=aU (by omega);have e2:xs[i]?=some (xs[i]'(by have:=bn.out;omega)):=a8 _;have dT:bh[i]?=some (bh[i]'(by have:=hM.out;omega)):=a8 _;obtain⟨⟨b5,-⟩,⟨aC,-⟩,⟨aM,-⟩,⟨a1,-⟩,⟨bN,-⟩⟩:=cx i _ e2;obtain⟨⟨d0,-⟩,⟨d1,-⟩,⟨d2,-⟩,⟨d3,-⟩,⟨d4,-⟩⟩:=fE i _ dT;have cp:=hid (fun (h:bh[i]?=some (xs[i]'(by have:=bn.out;omega)))=>Ms dd.out e2 h);have cB:=hid (cv.out i _ _ e2 dT);have sk:=hid dT;clear cx fE aK aU e2 dT cv;generalize xs[i]'(by have:=bn.out;omega)=X at*;generalize bh[i]'(by have:=hM.out;omega)=Y at*;have gE:=bd ea ab.size;have gh:=bd dK ab.size;unfold ed at b5 d0 aC d1 aM d2 a1 d3 bN d4;have mH:=al.cell gE (ab.ad ea b5);have m0:=al.cell gh (ab.ad dK d0);have ak:=al.cell gE (ab.ad ea aC);have m1:=al.cell gh (ab.ad dK d1);have a':=al.cell gE (ab.ad ea aM);have m2:=al.cell gh (ab.ad dK d2);have bw:=al.cell gE (ab.ad ea a1);have m3:=al.cell gh (ab.ad dK d3);have cG:=al.cell gE (ab.ad ea bN);have m4:=al.cell gh (ab.ad dK d4);clear b5 d0 aC d1 aM d2 a1 d3 bN d4;have rQ:(i:Int)<n:=by omega
    obtain⟨bZ,b3,cT,ha,h0⟩:=X;obtain⟨e3,ee,fW,mS,td⟩:=Y;dsimp only at mH m0 ak m1 a' m2 bw m3 cG m4;by_cases aj:bZ=e3
    case neg=>
     have bk:=hid (cB.out (fun e=>aj (by injection e)));obtain⟨aO,aN⟩:=fr aj;have eB:=hid aj;clear aj;go_wp2_with fail
     refine fQ (by kernel_rfl) (by kernel_rfl) ?_
     repeat (go_big_quiet_step (fail))
     refine wpQuiet_nil ?_;rintro cf ⟨⟨bt,cj⟩,bb⟩;obtain rfl:cf=bt:=bb;go_wp2_with fail
     go_ret;exact dE.no bk.out (ab.trans cj)
    subst aj;by_cases I:b3=ee
    case neg=>
     have bk:=hid (cB.out (fun e=>I (by injection e)));obtain⟨aO,aN⟩:=fr I;have eB:=hid I;clear I;go_wp2_with fail
     refine fQ (by kernel_rfl) (by kernel_rfl) ?_
     repeat (go_big_quiet_step (fail))
     refine wpQuiet_nil ?_;rintro cf ⟨⟨bt,cj⟩,bb⟩;obtain rfl:cf=bt:=bb;go_wp2_with fail
     go_ret;exact dE.no bk.out (ab.trans cj)
    subst I;by_cases U:cT=fW
    case neg=>
     have bk:=hid (cB.out (fun e=>U (by injection e)));obtain⟨aO,aN⟩:=fr U;have eB:=hid U;clear U;go_wp2_with fail
     refine fQ (by kernel_rfl) (by kernel_rfl) ?_
     repeat (go_big_quiet_step (fail))
     refine wpQuiet_nil ?_;rintro cf ⟨⟨bt,cj⟩,bb⟩;obtain rfl:cf=bt:=bb;go_wp2_with fail
     go_ret;exact dE.no bk.out (ab.trans cj)
    subst U;by_cases ae:ha=mS
    case neg=>
     have bk:=hid (cB.out (fun e=>ae (by injection e)));obtain⟨aO,aN⟩:=fr ae;have eB:=hid ae;clear ae;go_wp2_with fail
     refine fQ (by kernel_rfl) (by kernel_rfl) ?_
     repeat (go_big_quiet_step (fail))
     refine wpQuiet_nil ?_;rintro cf ⟨⟨bt,cj⟩,bb⟩;obtain rfl:cf=bt:=bb;go_wp2_with fail
     go_ret;exact dE.no bk.out (ab.trans cj)
    subst ae;by_cases aJ:h0=td
    case neg=>
     have bk:=hid (cB.out (fun e=>aJ (by injection e)));obtain⟨aO,aN⟩:=fr aJ;have eB:=hid aJ;clear aJ;go_wp2_with fail
     refine fQ (by kernel_rfl) (by kernel_rfl) ?_
     repeat (go_big_quiet_step (fail))
     refine wpQuiet_nil ?_;rintro cf ⟨⟨bt,cj⟩,bb⟩;obtain rfl:cf=bt:=bb;go_wp2_with fail
     go_ret;exact dE.no bk.out (ab.trans cj)
    subst aJ;go_wp2_with fail
    refine fQ (by kernel_rfl) (by kernel_rfl) ?_
    repeat (go_big_quiet_step (fail))
    refine wpQuiet_nil ?_;rintro cf ⟨⟨bt,cj⟩,bb⟩;obtain rfl:cf=bt:=bb;go_wp2_with fail
    go_roundw
    case rel=>exact⟨i+1,hp,by go_num,ab.trans cj,cp.out sk.out⟩
    case measure=>simp only[intOf];omega
   ·have rQ:¬((i:Int)<n):=by omega
    obtain rfl:i=n:=by omega
    go_wp2_with fail
    go_ret;exact dE.yes (aV.out dd.out) ab
 ·have bk:=hid (fun e:xs=bh=>aq (by rw[e]));have pP:((xs.length:Int) !=bh.length)=true:=(fr (by omega)).2;clear aq aK aU;go_enter func65,ntmps65
  go_wp2_with fail
  go_ret;exact dE.no bk.out (aQ _)
theorem ael (e_ fm:Value) (xs bh:List ByteArray) (w:World) (aZ:qq w e_ xs) (J:qq w fm bh):Calls prog 64 #[e_,fm] w (dE (xs=bh) w):=by
 obtain⟨A,oo,rfl,-,af,aK⟩:=aZ;obtain⟨B,qw,rfl,-,-,aU⟩:=J;by_cases aq:xs.length=bh.length
 ·obtain⟨n,fj⟩:∃n,n=xs.length:=⟨_,rfl⟩;have jL:n=bh.length:=fj.trans aq;rw[←fj]at aK af⊢;rw[←jL]at aU⊢;have bn:=hid fj;have hM:=hid jL;have bz:=hid (fun h:¬xs=bh=>h);have cv:=hid (fun (i:Nat) (x y:ByteArray) (I:xs[i]?=some x) (U:bh[i]?=some y) (h:x≠y)=>at_differ I U h);have aV:=hid (show xs.take n=bh.take n→xs=bh from fun h=>by rw[List.take_of_length_le (by omega),List.take_of_length_le (by omega)]at h;exact h);clear fj jL aq;go_enter func64,ntmps64
  go_wp2_with fail
  go_loopw [13] (fun z wr=>∃i:Nat,i≤n∧z= .int .i64 i∧Kept w wr∧xs.take i=bh.take i) (fun z _=>(n-intOf z).toNat)
  case atStart=>exact⟨0,Nat.zero_le _,rfl,aQ _,rfl⟩
  case round=>
   obtain⟨i,de,rfl,ab,aG⟩:=hrel;have dd:=hid aG;clear aG;by_cases hp:i<n
   ·obtain⟨bY,jv,rfl,ea,cx⟩:=aK (by omega);obtain⟨bc,k4,rfl,dK,fE⟩:=aU (by omega);have e2:xs[i]?=some (xs[i]'(by have:=bn.out;omega)):=a8 _;have dT:bh[i]?=some (bh[i]'(by have:=hM.out;omega)):=a8 _;obtain⟨b5,-⟩:=cx i _ e2;obtain⟨d0,-⟩:=fE i _ dT;have cp:=hid (fun (h:bh[i]?=some (xs[i]'(by have:=bn.out;omega)))=>Ms dd.out e2 h);have cB:=hid (cv.out i _ _ e2 dT);have sk:=hid dT;clear cx fE aK aU e2 dT cv;generalize xs[i]'(by have:=bn.out;omega)=X at*;generalize bh[i]'(by have:=hM.out;omega)=Y at*;have gE:=bd ea ab.size;have gh:=bd dK ab.size;unfold ed at b5 d0;rw[Nat.mul_one]at b5 d0;have mH:=al.cell gE (ab.ad ea b5);have m0:=al.cell gh (ab.ad dK d0);clear b5 d0;have rQ:(i:Int)<n:=by omega
    by_cases aj:X=Y
    case neg=>
     have bk:=hid (cB.out (aj));have aO:(X.toList==Y.toList)=false:=by rw[Az];exact decide_eq_false aj
     have aN:(X.toList !=Y.toList)=true:=by rw[bne,aO];rfl
     have eB:=hid aj;clear aj;go_wp2_with fail
     refine fQ (by kernel_rfl) (by kernel_rfl) ?_
     repeat (go_big_quiet_step (fail))
     refine wpQuiet_nil ?_;rintro cf ⟨⟨bt,cj⟩,bb⟩;obtain rfl:cf=bt:=bb;go_wp2_with fail
     go_ret;exact dE.no bk.out (ab.trans cj)
    subst aj;go_wp2_with fail
    refine fQ (by kernel_rfl) (by kernel_rfl) ?_
    repeat (go_big_quiet_step (fail))
    refine wpQuiet_nil ?_;rintro cf ⟨⟨bt,cj⟩,bb⟩;obtain rfl:cf=bt:=bb;go_wp2_with fail
    go_roundw
    case rel=>exact⟨i+1,hp,by go_num,ab.trans cj,cp.out sk.out⟩
    case measure=>simp only[intOf];omega
   ·have rQ:¬((i:Int)<n):=by omega
    obtain rfl:i=n:=by omega
    go_wp2_with fail
    go_ret;exact dE.yes (aV.out dd.out) ab
 ·have bk:=hid (fun e:xs=bh=>aq (by rw[e]));have pP:((xs.length:Int) !=bh.length)=true:=(fr (by omega)).2;clear aq aK aU;go_enter func64,ntmps64
  go_wp2_with fail
  go_ret;exact dE.no bk.out (aQ _)
theorem Vu (e_ fm:Value) (xs bh:List lE) (w:World) (aZ:cH 3 fL w e_ xs) (J:cH 3 fL w fm bh):Calls prog 66 #[e_,fm] w (dE (xs=bh) w):=by
 obtain⟨A,oo,rfl,-,af,aK⟩:=aZ;obtain⟨B,qw,rfl,-,-,aU⟩:=J;by_cases aq:xs.length=bh.length
 ·obtain⟨n,fj⟩:∃n,n=xs.length:=⟨_,rfl⟩;have jL:n=bh.length:=fj.trans aq;rw[←fj]at aK af⊢;rw[←jL]at aU⊢;have bn:=hid fj;have hM:=hid jL;have bz:=hid (fun h:¬xs=bh=>h);have cv:=hid (fun (i:Nat) (x y:lE) (I:xs[i]?=some x) (U:bh[i]?=some y) (h:x≠y)=>at_differ I U h);have aV:=hid (show xs.take n=bh.take n→xs=bh from fun h=>by rw[List.take_of_length_le (by omega),List.take_of_length_le (by omega)]at h;exact h);clear fj jL aq;go_enter func66,ntmps66
  go_wp2_with fail
  go_loopw [13] (fun z wr=>∃i:Nat,i≤n∧z= .int .i64 i∧Kept w wr∧xs.take i=bh.take i) (fun z _=>(n-intOf z).toNat)
  case atStart=>exact⟨0,Nat.zero_le _,rfl,aQ _,rfl⟩
  case round=>
   obtain⟨i,de,rfl,ab,aG⟩:=hrel;have dd:=hid aG;clear aG;by_cases hp:i<n
   ·obtain⟨bY,jv,rfl,ea,cx⟩:=aK (by omega);obtain⟨bc,k4,rfl,dK,fE⟩:=aU (by omega);have e2:xs[i]?=some (xs[i]'(by have:=bn.out;omega)):=a8 _;have dT:bh[i]?=some (bh[i]'(by have:=hM.out;omega)):=a8 _;obtain⟨⟨b5,-⟩,⟨aC,-⟩,⟨aM,-⟩⟩:=cx i _ e2;obtain⟨⟨d0,-⟩,⟨d1,-⟩,⟨d2,-⟩⟩:=fE i _ dT;have cp:=hid (fun (h:bh[i]?=some (xs[i]'(by have:=bn.out;omega)))=>Ms dd.out e2 h);have cB:=hid (cv.out i _ _ e2 dT);have sk:=hid dT;clear cx fE aK aU e2 dT cv;generalize xs[i]'(by have:=bn.out;omega)=X at*;generalize bh[i]'(by have:=hM.out;omega)=Y at*;have gE:=bd ea ab.size;have gh:=bd dK ab.size;unfold ed at b5 d0 aC d1 aM d2;have mH:=al.cell gE (ab.ad ea b5);have m0:=al.cell gh (ab.ad dK d0);have ak:=al.cell gE (ab.ad ea aC);have m1:=al.cell gh (ab.ad dK d1);have a':=al.cell gE (ab.ad ea aM);have m2:=al.cell gh (ab.ad dK d2);clear b5 d0 aC d1 aM d2;have rQ:(i:Int)<n:=by omega
    obtain⟨bZ,b3,cT⟩:=X;obtain⟨e3,ee,fW⟩:=Y;dsimp only at mH m0 ak m1 a' m2;by_cases aj:bZ=e3
    case neg=>
     have bk:=hid (cB.out (fun e=>aj (by injection e)));have aO:(bZ.toList==e3.toList)=false:=by rw[Az];exact decide_eq_false aj
     have aN:(bZ.toList !=e3.toList)=true:=by rw[bne,aO];rfl
     have eB:=hid aj;clear aj;go_wp2_with fail
     refine fQ (by kernel_rfl) (by kernel_rfl) ?_
     repeat (go_big_quiet_step (fail))
     refine wpQuiet_nil ?_;rintro cf ⟨⟨bt,cj⟩,bb⟩;obtain rfl:cf=bt:=bb;go_wp2_with fail
     go_ret;exact dE.no bk.out (ab.trans cj)
    subst aj;by_cases I:b3=ee
    case neg=>
     have bk:=hid (cB.out (fun e=>I (by injection e)));obtain⟨aO,aN⟩:=fr I;have eB:=hid I;clear I;go_wp2_with fail
     refine fQ (by kernel_rfl) (by kernel_rfl) ?_
     repeat (go_big_quiet_step (fail))
     refine wpQuiet_nil ?_;rintro cf ⟨⟨bt,cj⟩,bb⟩;obtain rfl:cf=bt:=bb;go_wp2_with fail
     go_ret;exact dE.no bk.out (ab.trans cj)
    subst I;by_cases U:cT=fW
    case neg=>
     have bk:=hid (cB.out (fun e=>U (by injection e)));obtain⟨aO,aN⟩:=fr U;have eB:=hid U;clear U;go_wp2_with fail
     refine fQ (by kernel_rfl) (by kernel_rfl) ?_
     repeat (go_big_quiet_step (fail))
     refine wpQuiet_nil ?_;rintro cf ⟨⟨bt,cj⟩,bb⟩;obtain rfl:cf=bt:=bb;go_wp2_with fail
     go_ret;exact dE.no bk.out (ab.trans cj)
    subst U;go_wp2_with fail
    refine fQ (by kernel_rfl) (by kernel_rfl) ?_
    repeat (go_big_quiet_step (fail))
    refine wpQuiet_nil ?_;rintro cf ⟨⟨bt,cj⟩,bb⟩;obtain rfl:cf=bt:=bb;go_wp2_with fail
    go_roundw
    case rel=>exact⟨i+1,hp,by go_num,ab.trans cj,cp.out sk.out⟩
    case measure=>simp only[intOf];omega
   ·have rQ:¬((i:Int)<n):=by omega
    obtain rfl:i=n:=by omega
    go_wp2_with fail
    go_ret;exact dE.yes (aV.out dd.out) ab
 ·have bk:=hid (fun e:xs=bh=>aq (by rw[e]));have pP:((xs.length:Int) !=bh.length)=true:=(fr (by omega)).2;clear aq aK aU;go_enter func66,ntmps66
  go_wp2_with fail
  go_ret;exact dE.no bk.out (aQ _)
structure kS where
 o:bg
 n:bg
 ft:Int
 gF:Int
def Ct (x:kS) (bA:Value):Value:= .agg #[x.o.k,x.o.e,x.o.n,x.n.k,x.n.e,x.n.n,x.ft,x.gF,bA]
def lX (x:kS):Prop:=(x.ft=0∧x.gF=0∧x.o≠x.n)∨(¬(x.ft=0∧x.gF=0)∧(x.ft=0∨x.gF=0))
theorem YW (x:kS) (A:Option Addr) (n c:Nat) (w:World):Calls prog 10 #[Ct x (.slice A n c)] w (dE (lX x) w):=by
 obtain⟨⟨b9,cL,an⟩,⟨dv,be,cc⟩,ft,gF⟩:=x;obtain⟨Q,cJ⟩:∃Q,Q=lX ⟨⟨b9,cL,an⟩,⟨dv,be,cc⟩,ft,gF⟩:=⟨_,rfl⟩;rw[←cJ];have bz:=hid cJ;clear cJ;unfold Ct;dsimp only;by_cases I:ft=0
 ·by_cases U:gF=0
  ·subst I U;by_cases az:b9=dv
   case neg=>
    have au:=hid (show Q from bz.out▸ .inl ⟨rfl,rfl,fun e=>az (bg.mk.inj e).1⟩);obtain⟨aO,aN⟩:=fr az;clear az;go_enter func10,ntmps10
    go_wp2_with fail
    go_ret;exact dE.yes au.out ((by with_reducible repeat first|exact .refl _|assumption|refine .drew ?_|refine .alloc ?_ _|refine .setCell ?_ (by (try simp only);omega) _|refine .trans ?_ ‹Kept _ _›))
   by_cases a6:cL=be
   case neg=>
    have au:=hid (show Q from bz.out▸ .inl ⟨rfl,rfl,fun e=>a6 (bg.mk.inj e).2.1⟩);obtain⟨aO,aN⟩:=fr a6;subst az;clear a6;go_enter func10,ntmps10
    go_wp2_with fail
    go_ret;exact dE.yes au.out ((by with_reducible repeat first|exact .refl _|assumption|refine .drew ?_|refine .alloc ?_ _|refine .setCell ?_ (by (try simp only);omega) _|refine .trans ?_ ‹Kept _ _›))
   by_cases b7:an=cc
   case neg=>
    have au:=hid (show Q from bz.out▸ .inl ⟨rfl,rfl,fun e=>b7 (bg.mk.inj e).2.2⟩);obtain⟨aO,aN⟩:=fr b7;subst az a6;clear b7;go_enter func10,ntmps10
    go_wp2_with fail
    go_ret;exact dE.yes au.out ((by with_reducible repeat first|exact .refl _|assumption|refine .drew ?_|refine .alloc ?_ _|refine .setCell ?_ (by (try simp only);omega) _|refine .trans ?_ ‹Kept _ _›))
   subst az a6 b7;have au:=hid (show¬Q from fun q=>by rw[bz.out]at q;rcases q with⟨-,-,h⟩|⟨h,-⟩;exact h rfl;exact h ⟨rfl,rfl⟩);go_enter func10,ntmps10
   go_wp2_with fail
   go_ret;exact dE.no au.out ((by with_reducible repeat first|exact .refl _|assumption|refine .drew ?_|refine .alloc ?_ _|refine .setCell ?_ (by (try simp only);omega) _|refine .trans ?_ ‹Kept _ _›))
  ·subst I;have au:=hid (show Q from bz.out▸ .inr ⟨fun h=>U h.2,.inl rfl⟩);obtain⟨aO,aN⟩:=fr U;clear U;go_enter func10,ntmps10
   go_wp2_with fail
   go_ret;exact dE.yes au.out ((by with_reducible repeat first|exact .refl _|assumption|refine .drew ?_|refine .alloc ?_ _|refine .setCell ?_ (by (try simp only);omega) _|refine .trans ?_ ‹Kept _ _›))
 ·obtain⟨aO,aN⟩:=fr I;by_cases U:gF=0
  ·subst U;have au:=hid (show Q from bz.out▸ .inr ⟨fun h=>I h.1,.inr rfl⟩);clear I;go_enter func10,ntmps10
   go_wp2_with fail
   go_ret;exact dE.yes au.out ((by with_reducible repeat first|exact .refl _|assumption|refine .drew ?_|refine .alloc ?_ _|refine .setCell ?_ (by (try simp only);omega) _|refine .trans ?_ ‹Kept _ _›))
  ·have au:=hid (show¬Q from fun q=>by rw[bz.out]at q;rcases q with⟨h,-⟩|⟨-,h|h⟩;exact I h;exact I h;exact U h);obtain⟨cK,dA⟩:=fr U;clear I U;go_enter func10,ntmps10
   go_wp2_with fail
   go_ret;exact dE.no au.out ((by with_reducible repeat first|exact .refl _|assumption|refine .drew ?_|refine .alloc ?_ _|refine .setCell ?_ (by (try simp only);omega) _|refine .trans ?_ ‹Kept _ _›))
section
open Go.Maps (Keyed)
def u' (v:Value):Option (DataW Value×List MemPlace):=some (.held v,[])
def hvV:Option Value→DataW Value
 |none=> .nil
 |some v=> .held v
noncomputable def yK (f:Value→Option Value) (key val:Value):Value→Option Value:=fun x=> @ite _ (x=key) (Classical.propDecidable _) (some val) (f x)
theorem Iu (f:Value→Option Value) (key val:Value):yK f key val key=some val:=by unfold yK;exact if_pos rfl
theorem It (f:Value→Option Value) {key x:Value} (val:Value) (h:x≠key):yK f key val x=f x:=by unfold yK;exact if_neg h
def gb (k:TypeId) (b n:Nat) (f:Value→Option Value) (w:World):Prop:=
 ∃D:DataW Value,w.ownsMap prog k u' b n D∧Maps.IsMap D∧∀key uh,keyOf prog k key=some uh→D.atKey uh .nil=hvV (f key)
theorem gb.made (k:TypeId) (w:World):gb k w.heap.size 0 (fun _=>none) (w.alloc (.map #[] 0)):=
 ⟨.map [],World.ownsMap_made w _ _ _,⟨[],rfl⟩,fun _ _ _=>rfl⟩
section
variable {k t e:TypeId} {b n:Nat} {f:Value→Option Value} {w w':World}
theorem gb.lt (h:gb k b n f w):b<w.heap.size:=by
 obtain⟨D,I,-⟩:=h;exact I.lt
theorem gb.block (h:gb k b n f w) (J:w'.heap[b]?=w.heap[b]?):gb k b n f w':=by
 obtain⟨D,⟨es,c,I,U⟩,ae⟩:=h;exact⟨D,⟨es,c,J.trans I,U⟩,ae⟩
theorem gb.kept (h:gb k b n f w) (aa:Kept w w'):gb k b n f w':=h.block (aa.block b h.lt)
theorem gb.grown {row:Option Nat} (h:gb k b n f w) (aa:w.grownBy w' row) (bQ:some b≠row):gb k b n f w':=h.block (aa.block b h.lt bQ)
theorem gb.look (c:Bool) (h:gb k b n f w) (K:Keyed prog k) (bS:prog.underlying t=some (.map k e)) {z:Value} (ck:(zeroValue e).run prog w= .ok z w) {key:Value} {uh:Lit} (B_:keyOf prog k key=some uh):
  (Instr.lookup t (.map (some b)) key c).run prog w= .ok (if c then .tuple #[(f key).getD z,.bool (f key).isSome]else (f key).getD z) w:=by
 obtain⟨D,⟨es,ad,I,F,-,rfl⟩,-,b'⟩:=h;have av:=b' key uh B_;rcases Maps.fit_look c K bS ck I F B_ with⟨aG,-,eG⟩|⟨gY,y,-,-,aG,aw,eG,-⟩
 ·rw[eG]at av
  cases bO:f key with
  |none=>rw[aG];rfl
  |some v=>rw[bO]at av;cases av
 ·cases aw;rw[eG]at av
  cases bO:f key with
  |none=>rw[bO]at av;cases av
  |some v=>
   rw[bO]at av
   cases av;rw[aG];rfl
theorem gb.store (h:gb k b n f w) (K:Keyed prog k) (bS:prog.underlying t=some (.map k e)) (aA:n<maxLen) {key:Value} {uh:Lit} (B_:keyOf prog k key=some uh) (val:Value):
  ∃w',(Instr.mapUpdate t (.map (some b)) key val).run prog w= .ok () w'∧gb k b (n+1) (yK f key val) w'∧w.grownBy w' (some b):=by
 obtain⟨D,I,br,b'⟩:=h;obtain⟨w',im,i_,vU⟩:=I.update K bS aA B_ (val:=val) (d:= .held val) (ps:=[]) rfl;refine⟨w',im,⟨_,i_,br.put _ _,fun x MI af=> ?_⟩,vU⟩;by_cases QJ:x=key
 ·subst QJ;rw[B_]at af
  cases af;rw[Maps.atKey_put_same br (K.key B_),Iu];rfl
 ·rw[Maps.atKey_put_other (fun aq:MI=uh=>QJ (K.inj af (by rw[aq];exact B_))),It f val QJ];exact b' x MI af
end
theorem ag4 {dI w w':World} {b:Nat} (aa:Kept dI w) (J:dI.heap.size≤b) (h:w.grownBy w' (some b)):Kept dI w':=
 ⟨h.os.trans aa.os,h.tape.trans aa.tape,h.output.trans aa.output,Nat.le_trans aa.size h.size,fun i aE=>(h.block i (bd aE aa.size) (fun e=>by cases e;omega)).trans (aa.block i aE)⟩
end
theorem vc.at3 {w:World} {v:Value} {xs:List ByteArray} (h:vc w v xs):∃A cap,v= .slice A xs.length cap∧(0<xs.length→∃b off,A=some ⟨b,off,none⟩∧b<w.heap.size∧∀(j:Nat) x,xs[j]?=some x→w.cell? ⟨b,off+j,none⟩=some (.string x)):=by
 obtain⟨A,cap,ay,af⟩:=h;refine⟨A,cap,ay,fun hp=> ?_⟩;obtain⟨b,off,aK,J,ah⟩:=af hp;refine⟨b,off,aK,J,fun j x aB=> ?_⟩;have:=ah j (b8 aB).1;rwa [aB,Option.getD_some]at this
theorem pA.at_ {w:World} {k:Nat} {p:World→Nat→Nat→Prop} {v:Value} (h:pA w k p v):∃A n cap,v= .slice A n cap∧n≤9223372036854775807∧(0<n→∃b off,A=some ⟨b,off,none⟩∧b<w.heap.size∧∀j,j<n→p w b (off+j*k)):=h
def DF (Q:Prop) (w:World) (r:Ending) (w':World):Prop:=∃b:Bool,r= .returned (.bool b)∧Kept w w'∧(b=true→Q)
theorem ai2 (ag:ByteArray) (m:Int) (bo b6 bA:Value) (w:World) (bC:pA w 3 jD bo) (b':pA w 3 jD b6) (aw:pA w 9 DE bA):
  Calls prog 11 #[.agg #[ag,m,bo,b6,bA]] w (DF True w):=by
 obtain⟨cl,en,aC,rfl,j9,rU⟩:=bC.at_;obtain⟨cM,dQ,aM,rfl,ke,cj⟩:=b'.at_;obtain⟨cX,iC,a1,rfl,rN,Ak⟩:=aw.at_;have aF:=hid ((aQ w).alloc (.cells #[ag,m,.slice cl en aC,.slice cM dQ aM,.slice cX iC a1] 64));clear bC b' aw;rcases (show 80<(ag.size:Int)∨(¬80<(ag.size:Int)∧14<(en:Int))∨(¬80<(ag.size:Int)∧¬14<(en:Int)∧14<(dQ:Int))∨(¬80<(ag.size:Int)∧¬14<(en:Int)∧¬14<(dQ:Int)∧60<(iC:Int))∨(¬80<(ag.size:Int)∧¬14<(en:Int)∧¬14<(dQ:Int)∧¬60<(iC:Int)) by omega)with h|⟨h,I⟩|⟨h,I,U⟩|⟨h,I,U,ae⟩|⟨h,I,U,ae⟩
 iterate 4
  clear rU cj Ak;go_enter func11,ntmps11
  go_wp2_with fail
  go_ret;exact⟨_,rfl,aF.out,fun h=>trivial⟩
 go_enter func11,ntmps11
 go_wp2_with fail
 have B:=ao.new w 64 #[ag,m,.slice cl en aC,.slice cM dQ aM,.slice cX iC a1];have aW:=aF.out;generalize w.alloc (.cells #[ag,m,.slice cl en aC,.slice cM dQ aM,.slice cX iC a1] 64)=W at*;have b5:=B.cell 2;have c1':=B.cell 3;have c2':=B.cell 4;have ad:=B.lt;go_loopw [3] (fun y wr=>∃i:Nat,y= .int .i64 i∧i≤en∧wr=W) (fun y _=>en-(intOf y).toNat)
 case atStart=>exact⟨0,rfl,Nat.zero_le _,rfl⟩
 case round=>
  obtain⟨i,rfl,de,rfl⟩:=hrel;by_cases aD:i<en
  ·obtain⟨b,off,rfl,J,ah⟩:=rU (by omega);obtain⟨s,ax⟩:=ah i aD;have gd:=aW.ad J ax;have dK:=bd J aW.size;have c6:(i:Int)<en:=by omega
   clear ah ax rU cj Ak;by_cases et:80<(s.size:Int)
   ·go_wp2_with fail
    go_ret;exact⟨_,rfl,aW,fun h=>trivial⟩
   ·go_wp2_with fail
    go_roundw
    case rel=>exact⟨i+1,rfl,aD,trivial⟩
    case measure=>simp[intOf];omega
  ·have c6:¬((i:Int)<en):=by omega
   go_wp2_with fail
   go_loopw [4] (fun y uH=>∃i:Nat,y= .int .i64 i∧i≤dQ∧uH=wr) (fun y _=>dQ-(intOf y).toNat)
   case atStart=>exact⟨0,rfl,Nat.zero_le _,rfl⟩
   case round=>
    obtain⟨j,rfl,tZ,rfl⟩:=hrel;by_cases l_:j<dQ
    ·obtain⟨b,off,rfl,J,ah⟩:=cj (by omega);obtain⟨s,ax⟩:=ah j l_;have gd:=aW.ad J ax;have dK:=bd J aW.size;have hE:(j:Int)<dQ:=by omega
     clear ah ax rU cj Ak;by_cases et:80<(s.size:Int)
     ·go_wp2_with fail
      go_ret;exact⟨_,rfl,aW,fun h=>trivial⟩
     ·go_wp2_with fail
      go_roundw
      case rel=>exact⟨j+1,rfl,l_,trivial⟩
      case measure=>simp[intOf];omega
    ·have hE:¬((j:Int)<dQ):=by omega
     go_wp2_with fail
     go_loopw [5] (fun y uH=>∃i:Nat,y= .int .i64 i∧i≤iC∧Kept wr uH) (fun y _=>iC-(intOf y).toNat)
     case atStart=>exact⟨0,rfl,Nat.zero_le _,aQ _⟩
     case round=>
      obtain⟨q,rfl,Ck,ab⟩:=hrel;have aT:=B.kept ab;have d2:=aT.cell 4;have dl:=aT.lt;by_cases HC:q<iC
      ·obtain⟨b,off,rfl,J,ah⟩:=Ak (by omega);have pT:=DE.kept _ _ _ _ (aW.trans ab) J (ah q HC);obtain⟨⟨jw,g0⟩,⟨e6,g1⟩,⟨z2,g2⟩,⟨z3,g3⟩,⟨z4,g4⟩,⟨z5,g5⟩,⟨q4,yC,eQ,g6,ev⟩,⟨Fy,Rh,kv,g7,EY⟩,⟨Me,g8⟩⟩:=pT;have dK:=bd J (aW.trans ab).size;have Cl:(q:Int)<iC:=by omega
       clear ah rU cj Ak h I U ae;rcases (show 80<(jw.size:Int)∨(¬80<(jw.size:Int)∧80<(Me.size:Int))∨(¬80<(jw.size:Int)∧¬80<(Me.size:Int)∧50<(yC:Int))∨(¬80<(jw.size:Int)∧¬80<(Me.size:Int)∧¬50<(yC:Int)∧50<(Rh:Int))∨(¬80<(jw.size:Int)∧¬80<(Me.size:Int)∧¬50<(yC:Int)∧¬50<(Rh:Int)) by omega)with h|⟨h,I⟩|⟨h,I,U⟩|⟨h,I,U,ae⟩|⟨h,I,U,ae⟩
       iterate 4
        go_wp2_with fail
        go_ret;exact⟨_,rfl,(aW.trans ab).alloc _,fun h=>trivial⟩
       go_wp2_with fail
       go_roundw
       case rel=>exact⟨q+1,rfl,HC,ab.alloc _⟩
       case measure=>simp[intOf];omega
      ·have Cl:¬((q:Int)<iC):=by omega
       go_wp2_with fail
       go_ret;exact⟨_,rfl,aW.trans ab,fun h=>trivial⟩
theorem ai1 (d:Int) (bo bW:Value) (ins:List bg) (mem:List (List bg)) (w:World) (bC:ff w bo ins) (br:ld w bW mem):
  Calls prog 6 #[.agg #[d,bo,bW]] w (DF (ins.length≤14∧mem.length≤10∧∀l∈mem,l.length≤14) w):=by
 obtain⟨cl,aC,rfl,_⟩:=bC;obtain⟨cM,aM,rfl,gR,af⟩:=br.at_;obtain⟨en,j9⟩:∃n,n=ins.length:=⟨_,rfl⟩;obtain⟨dQ,ke⟩:∃n,n=mem.length:=⟨_,rfl⟩;rw[←ke]at af gR;rw[←j9,←ke];obtain⟨Q,cJ⟩:∃Q,(en≤14∧dQ≤10∧∀l∈mem,l.length≤14)=Q:=⟨_,rfl⟩;rw[cJ];have bz:=hid (fun h=>cJ▸h:(en≤14∧dQ≤10∧∀l∈mem,l.length≤14)→Q);have bk:=hid ke;clear j9 ke br cJ;have aF:=hid ((aQ w).alloc (.cells #[d,.slice cl en aC,.slice cM dQ aM] 34));rcases (show 14<(en:Int)∨(¬14<(en:Int)∧10<(dQ:Int))∨(¬14<(en:Int)∧¬10<(dQ:Int)) by omega)with h|⟨h,I⟩|⟨h,I⟩
 iterate 2
  clear af;go_enter func6,ntmps6
  go_wp2_with fail
  go_ret;exact⟨_,rfl,aF.out,fun h=>by cases h⟩
 have bb:en≤14∧dQ≤10:=by omega
 have eB:=hid bb;go_enter func6,ntmps6
 go_wp2_with fail
 have B:=ao.new w 34 #[d,.slice cl en aC,.slice cM dQ aM];have aW:=aF.out;generalize w.alloc (.cells #[d,.slice cl en aC,.slice cM dQ aM] 34)=W at*;have c2':=B.cell 2;have ad:=B.lt;go_loopw [3] (fun y wr=>∃i:Nat,y= .int .i64 i∧i≤dQ∧wr=W∧∀(j:Nat) l,j<i→mem[j]?=some l→l.length≤14) (fun y _=>dQ-(intOf y).toNat)
 case atStart=>exact⟨0,rfl,Nat.zero_le _,rfl,fun _ _ h=>absurd h (Nat.not_lt_zero _)⟩
 case round=>
  obtain⟨i,rfl,de,rfl,ht⟩:=hrel;have ej:=hid ht;clear ht;by_cases aD:i<dQ
  ·obtain⟨b,off,rfl,J,ah⟩:=af (by omega);have ai:mem[i]?=some (mem[i]'(by have:=bk.out;omega)):=a8 _;obtain⟨t',Su,cl',e3,_⟩:=ah i _ ai;have dO:=hid ai;generalize mem[i]'(by have:=bk.out;omega)=l at*;have wK:=aW.ad J e3;have dK:=bd J aW.size;have c6:(i:Int)<dQ:=by omega
   clear ah e3 af ai;by_cases et:14<(l.length:Int)
   ·go_wp2_with fail
    go_ret;exact⟨_,rfl,aW,fun h=>by cases h⟩
   ·go_wp2_with fail
    go_roundw
    case rel=>
     refine⟨i+1,rfl,aD,trivial,fun j p0 aB lO=> ?_⟩;by_cases gu:j=i
     ·subst gu;rw[dO.out]at lO;obtain rfl:=Option.some.inj lO;omega
     ·exact ej.out j p0 (by omega) lO
    case measure=>simp[intOf];omega
  ·have c6:¬((i:Int)<dQ):=by omega
   go_wp2_with fail
   go_ret;refine⟨_,rfl,aW,fun _=>bz.out ⟨eB.out.1,eB.out.2,fun l aq=> ?_⟩⟩;obtain⟨j,aB⟩:=List.getElem?_of_mem aq;have Hy:=(b8 aB).1;exact ej.out j l (by have:=bk.out;omega) aB
theorem akA (x:Int): -9223372036854775808≤wrap64 x∧wrap64 x≤9223372036854775807:=by
 unfold wrap64;omega
end Go.Proofs.YtobpgndkciofhaaGreatDoor
