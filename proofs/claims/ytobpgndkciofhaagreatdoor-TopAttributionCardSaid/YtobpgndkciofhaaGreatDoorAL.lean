import Derived.Test.YtobpgndkciofhaaGreatDoorAI
import Derived.Test.YtobpgndkciofhaaGreatDoorAK
set_option linter.all false
namespace Go.Proofs.YtobpgndkciofhaaGreatDoor
open Go.RowKit Go.Proofs.Tryz
open Go.Lib (hid)
set_option maxRecDepth 100000
set_option maxHeartbeats 32000000
def xB (w:World) (b o:Nat) (c:h9):Prop:=k_ w b o c.d∧(∃v,ed w b (o+1) v∧ff w v c.ins)∧c.ins.length≤9223372036854775807∧∃v,ed w b (o+2) v∧ld w v c.mem
theorem xB.kept:zu xB:=fun _ _ _ _ _ aa J ⟨aj,⟨v,I,U⟩,ae,u,aJ,bp⟩=>⟨aj.kept aa J,⟨v,I.kept aa J,U.kept aa⟩,ae,u,aJ.kept aa J,bp.kept aa⟩
theorem Tryz.afU:(prog.info? 50).map (fun i=>(i.zero,i.size,i.bytes))=some (some (.agg #[(),(),(),(),(),(),(),(),aR]),9,88):=by kernel_rfl
theorem agR {α β:Type} (f:α→β) {l:List α} {i:Nat} {x:α} (h:l[i]?=some x):(l.take (i+1)).map f=(l.take i).map f++[f x]:=by
 rw[List.take_add_one,h,Option.toList_some,List.map_append,List.map_singleton]
theorem aat (e_ fm bT:Value) (A B:cZ) (sc d:Int) (cs:List h9) (w:World) (aZ:gy w e_ A) (J:gy w fm B) (aq:cH 3 xB w bT cs) (oY:cs.length≤1000) (nm:Mon w) (Ad:lv A.sc≤60) (Ae:lv B.sc≤60):
  Calls prog 7 #[e_,fm,sc,bT,d] w (aas A B sc d cs w):=by
 have tp:=hid (fun (bo bW:Value) (c:h9) w1 (h:Kept w w1) (bC:ff w bo c.ins) (br:ld w bW c.mem) (fP:c.ins.length≤9223372036854775807)=>adS e_ fm bo bW A B sc d c w1 (aZ.kept h) (J.kept h) (bC.kept h) (br.kept h) fP (nm.kept h) Ad Ae);unfold vn at tp;obtain⟨c_,b4,b2,rfl,aj,I,U⟩:=aZ;obtain⟨pf,pF,rfl,-⟩:=aj;obtain⟨pj,pJ,rfl,-⟩:=I;obtain⟨sf,pH,rfl,-⟩:=U;obtain⟨c_,b4,b2,rfl,aj,I,U⟩:=J;obtain⟨pg,pG,rfl,-⟩:=aj;obtain⟨pk,pK,rfl,-⟩:=I;obtain⟨ph,pI,rfl,-⟩:=U;obtain⟨AC,anH,rfl,-,-,af⟩:=aq;have bn:=hid af;generalize A.bm.length=p2 at*;generalize A.tb.length=p4 at*;generalize A.sc.length=jM at*;generalize B.bm.length=p3 at*;generalize B.tb.length=ki at*;generalize B.sc.length=mK at*;generalize aA:cs.length=n at*;have bk:=hid aA;have e7:=hid oY;clear af nm Ad Ae aA;obtain⟨i0,hS,hT,hU,hV⟩:=info_parts Tryz.afU;go_enter func7,ntmps7
 go_upto_region 1 with fail
 generalize ar:((w.alloc _).alloc _).alloc _=W at*;obtain⟨aF,fB,e0,q5⟩:=Kept.b7 ar;clear ar;have cN:=hid aF;have mW:=hid (fun w1 (h:Kept W w1)=>fB.kept h);have q8:=hid (fun w1 (h:Kept W w1)=>e0.kept h);have M3:=hid (fun w1 (h:Kept W w1)=>q5.kept h);have alK:=q5.lt;clear fB e0 q5 aF;go_upto_region 2 with (at_make;refine wpList_make_own _ rfl _ _ 35 rfl W.heap.size 50 i0 _ 9 underlying35 hS hT hU _ _ _ n rfl rfl rfl (by rw[hV];omega) (by unfold maxLen;omega) (Nat.le_refl _) ?_;intro w1 aO aN;have cp:=hid (And.intro aO (show Kept W w1 from⟨aN.os,aN.tape,aN.output,aN.size,fun b J=>aN.block b J (by simp)⟩));clear aO aN)
 go_upto_region 3 with fail
 go_loopw [13,25] (fun v y wr=>∃(i:Nat) (bh:List Dt),y= .int .i64 i∧i≤n∧Kept W wr∧c3 wr W.heap.size 50 Am 9 v bh∧bh.map (·.qN)=(cs.take i).map (lh A B sc d)∧(∀x∈bh,T2 (vW A B sc d).length x)∧(0<i→kL A B sc d)) (fun _ y _=>n-(intOf y).toNat)
 case atStart=>exact⟨0,[],rfl,Nat.zero_le _,cp.out.2,cp.out.1,rfl,(fun x af=>by cases af),fun h=>absurd h (Nat.lt_irrefl 0)⟩
 case round=>
  obtain⟨i,bh,rfl,de,ab,ar,o5,fF,sM⟩:=hrel;by_cases aD:i<n
  ·obtain⟨hs,go,rfl,ic,hx⟩:=bn.out (by omega);have ai:cs[i]?=some (cs[i]'(by have:=bk.out;omega)):=a8 _;obtain⟨⟨t0,-⟩,⟨bo,t1,bC⟩,fP,bW,t2,br⟩:=hx i _ ai;have Bc:=hid (agR (lh A B sc d) ai);have yv:bh.length≤1000:=by
    have:=congrArg List.length o5;rw[List.length_map,List.length_map,List.length_take]at this;omega
   generalize cs[i]'(by have:=bk.out;omega)=c at*;obtain⟨dt,ins,mem⟩:=c;dsimp only at*;have C2:=hid (fun w1 (h:Kept w w1)=>(tp.out bo bW ⟨dt,ins,mem⟩ w1 h bC br fP).mono (R':=fun e w'=>∃(ok p5 on s4 ne vP ft gF:Int) (R:Option Addr) (c' ky:Nat) (k:Int),e= .returned (.tuple #[.agg #[ok,p5,on,s4,ne,vP,ft,gF,.slice R c' ky],k])∧(k=0↔kL A B sc d)∧(k=0→(⟨⟨ok,p5,on⟩,⟨s4,ne,vP⟩,ft,gF⟩:kS)=lh A B sc d ⟨dt,ins,mem⟩∧c'=(vW A B sc d).length)∧Kept w1 w') (by
    rintro e w' ⟨⟨⟨ok,p5,on⟩,⟨s4,ne,vP⟩,ft,gF⟩,R,c',ky,k,I⟩;exact⟨ok,p5,on,s4,ne,vP,ft,gF,R,c',ky,k,I⟩))
   obtain⟨dS,gP,rfl,-⟩:=bC;obtain⟨eH,kY,rfl,-⟩:=br;generalize ins.length=b1 at*;generalize mem.length=ew at*;unfold ed at t0 t1 t2;have bu:=cN.out.trans ab;replace t0:=bu.ad ic t0;replace t1:=bu.ad ic t1;replace t2:=bu.ad ic t2;have sO:=bd ic bu.size;have c6:(i:Int)<n:=by omega
   have K8:(i:Int)+1≤9223372036854775807:=by have:=e7.out;omega
   have tD:=hid o5;have tw:=hid fF;have dO:=hid ar;have HYL:=hid yv;have iR:=hid aD;have akU:=hid sM;clear hx ai o5 fF ar yv fP sM bu aD de;go_upto_region 5 with fail
   have bX:=ab.alloc (.cells #[dt,.slice dS b1 gP,.slice eH ew kY] 34);have Tq:=hid ((aQ wr).alloc (.cells #[dt,.slice dS b1 gP,.slice eH ew kY] 34));have Sx:=ao.new wr 34 #[dt,.slice dS b1 gP,.slice eH ew kY];clear t0 t1 t2 sO;generalize wr.alloc (.cells #[dt,.slice dS b1 gP,.slice eH ew kY] 34)=V at*;generalize wr.heap.size=g15 at*;obtain⟨c15,l15⟩:=Sx.p;have bJ:=(mW.out _ bX).cell;have dP:=(mW.out _ bX).lt;have eQ:=(q8.out _ bX).cell;have ev:=(q8.out _ bX).lt;go_upto_region 6 with (go_at_call 15;refine (C2.out _ (cN.out.trans bX)).mono ?_;rintro az w1 ⟨ok,p5,on,s4,ne,vP,ft,gF,R,c',ky,k,rfl,aa,c5,ak⟩;have gj:=hid (And.intro aa c5);clear aa c5)
   have eY:=(bX.trans ak).alloc (.cells #[ok,p5,on,s4,ne,vP,ft,gF,.slice R c' ky] 50);have Tr:=hid (Tq.out.trans (ak.alloc (.cells #[ok,p5,on,s4,ne,vP,ft,gF,.slice R c' ky] 50)));have AT:=ao.new w1 50 #[ok,p5,on,s4,ne,vP,ft,gF,.slice R c' ky];clear c15 l15 bJ dP eQ ev Sx bX ak Tq;generalize w1.alloc (.cells #[ok,p5,on,s4,ne,vP,ft,gF,.slice R c' ky] 50)=bG at*;generalize w1.heap.size=g16 at*;by_cases hC:kL A B sc d
   case neg=>
    have oZ:=hid (show k≠0 from fun h=>hC (gj.out.1.1 h));have bI:=hid hC;obtain⟨aO,aN⟩:=fr oZ.out;clear hC ab AT;have lJ:=M3.out _ eY;obtain⟨zL,Ao,f11⟩:=lJ.q;have bq:=hid (p' lJ (cN.out.trans eY) (by omega) () () () () () () ());clear lJ;go_wp2_with fail
    have cu:=bq.out.1.cell;exact bodyPost_ret (v:= .tuple #[aR,.agg #[(),(),(),(),(),(),()],k]) (by simp[results,results7,go_sem,cu]) rfl ⟨_,0,0,0,0,0,0,0,k,rfl,bq.out.2,fun _=>rfl,fun h=>absurd h oZ.out,fun h=>absurd h bI.out⟩
   obtain rfl:=gj.out.1.2 hC;obtain⟨rU,cj⟩:=gj.out.2 rfl;have zq:=hid (And.intro rU cj);have bI:=hid hC;have A':=hid (dO.out.n3 Tr.out);obtain⟨mU,sF,rfl,-,-⟩:=dO.out.form;have Jg:=hid eY;obtain⟨BE,H4⟩:=AT.p;have WI:=eY.size;have yv:=HYL.out;clear rU cj hC eY Tr AT ab gj dO;go_upto_region 9 with (at_builtin;refine wpList_append_own_at _ rfl (.tmp 42) (.tmp 44) 35 rfl W.heap.size 50 i0 _ 9 88 underlying35 hS hT hU hV rfl (by decide) _ bh.length (bh.flatMap Am) rfl (World.ownsRow.alloc A'.out _) ⟨bG.heap.size,0,none⟩ 1 1 (Am ⟨⟨⟨ok,p5,on⟩,⟨s4,ne,vP⟩,ft,gF⟩,.slice R c' ky⟩) rfl rfl zK (afR rfl) (by unfold maxLen;omega) (by omega) (by simp<;>omega) ?_;intro v6 dV aO aN _ dA;obtain⟨q4,eQ,rfl⟩:=il aO;have eN:=hid (And.intro aO (CI Jg.out A'.out (Nat.le_refl _) aN));clear aO aN dA)
   go_wp2_with fail
   go_roundw
   case rel=>exact⟨i+1,bh++[⟨⟨⟨ok,p5,on⟩,⟨s4,ne,vP⟩,ft,gF⟩,.slice R c' ky⟩],by go_num,iR.out,eN.out.2,c3.snoc eN.out.1,by rw[List.map_append,tD.out,Bc.out,←zq.out.1];rfl,fun x af=>by
     rcases List.mem_append.1 af with af|af
     ·exact tw.out x af
     ·rw[List.mem_singleton.1 af];exact⟨R,ky,by rw[←zq.out.2]⟩,fun _=>bI.out⟩
   case measure=>simp[intOf];have:=iR.out;omega
  ·obtain rfl:i=n:=by omega
   have c6:¬((i:Int)<i):=by omega
   rw[List.take_of_length_le (by rw[bk.out];exact Nat.le_refl _)]at o5;have wy:=hid (c3.yL afQ ar);have yv:bh.length≤1000:=by
    have:=congrArg List.length o5;rw[List.length_map,List.length_map,bk.out]at this;have:=e7.out;omega
   have zl:=hid (ajT _ bh wr wy.out (fun x af=>by obtain⟨R,ky,h⟩:=fF x af;exact⟨R,_,ky,h⟩) yv);unfold aaW uB at zl;rw[o5]at zl;obtain⟨mU,sF,ay,-⟩:=id wy.out;subst ay;have aV:=hid (show kL A B sc d∨cs=[]from by
    rcases Nat.eq_zero_or_pos i with h|h
    ·exact .inr (List.length_eq_zero_iff.1 (bk.out.trans h))
    ·exact .inl (sM h))
   have tD:=hid (And.intro o5 fF);have qe:=hid ab;have tx:=hid (fun b (e:Value.ownBlock _=some b)=>(World.ownsRow.lt ar b e).1);generalize jL:bh.length=aoE at*;generalize mD:mA (cs.map (lh A B sc d))=J_ at*;have FJ:=hid mD;have h_:=hid (show (cs.map (lh A B sc d)).length=i by rw[List.length_map];exact bk.out);clear o5 fF sM ar ab yv jL mD tp bn de aD;go_upto_region 11 with (go_at_call 16;refine zl.out.mono ?_;rintro az w1 ⟨a,b,c,e,f,g,h,k,rfl,aa,c5,ak⟩;have gj:=hid (And.intro aa c5);clear aa c5)
   have F9:=qe.out.trans (ak.alloc (.cells #[a,b,c,e,f,g,h] 37));have abK:=hid (ak.alloc (.cells #[a,b,c,e,f,g,h] 37));have we:=ao.new w1 37 #[a,b,c,e,f,g,h];have n1:=ak.size;clear ak;generalize w1.alloc (.cells #[a,b,c,e,f,g,h] 37)=bG at*;generalize w1.heap.size=g18 at*;by_cases bj:Br (cs.map (lh A B sc d))
   case neg=>
    have oZ:=hid (show k≠0 from fun h=>bj (gj.out.1.1 h));have cD:=hid bj;obtain⟨aO,aN⟩:=fr oZ.out;clear bj we;have lJ:=M3.out _ F9;obtain⟨zL,Ao,f11⟩:=lJ.q;have bq:=hid (p' lJ (cN.out.trans F9) (by omega) () () () () () () ());clear lJ;go_wp2_with fail
    have cu:=bq.out.1.cell;exact bodyPost_ret (v:= .tuple #[aR,.agg #[(),(),(),(),(),(),()],k]) (by simp[results,results7,go_sem,cu]) rfl ⟨_,0,0,0,0,0,0,0,k,rfl,bq.out.2,fun _=>rfl,fun h=>absurd h oZ.out,fun _ h=>absurd h cD.out⟩
   obtain rfl:=gj.out.1.2 bj;obtain⟨aZ,J⟩:=gj.out.2 rfl;have tk:=hid (And.intro aZ J);have mG:=qe.out.size;have lJ:=M3.out _ F9;have Jg:=hid (cN.out.trans F9);have fM:=hid (show∀s∈([(3,w.heap.size+1+1,37,#[a,b,c,e,f,g,h])]:List ia),∃cs,ao bG s.2.1 s.2.2.1 cs∧cs.size=s.2.2.2.size from by
    intro s ax;simp only[List.mem_cons,List.not_mem_nil,or_false]at ax;subst ax;exact⟨_,lJ,rfl⟩)
   have ep:=hid (show na [(3,w.heap.size+1+1,37,#[a,b,c,e,f,g,h])]from List.pairwise_singleton ..);have m18:=we.lt;have bQ:∀s∈([(3,w.heap.size+1+1,37,#[a,b,c,e,f,g,h])]:List ia),g18≠s.2.1:=by intro s ax;simp only[List.mem_cons,List.not_mem_nil,or_false]at ax;subst ax;simp only;omega
   have e3:=dc.cell (n:=5) bQ m18 (we.cell 0);have ee:=dc.cell (n:=5) bQ m18 (we.cell 1);have fW:=dc.cell (n:=5) bQ m18 (we.cell 2);have mS:=dc.cell (n:=5) bQ m18 (we.cell 3);have td:=dc.cell (n:=5) bQ m18 (we.cell 4);have MJ:=dc.cell (n:=5) bQ m18 (we.cell 5);have aoY:=dc.cell (n:=5) bQ m18 (we.cell 6);have NE:Nonempty (dc bG 5 [(3,w.heap.size+1+1,37,#[a,b,c,e,f,g,h])]):=dc.ne fM.out;clear aZ J bj F9 lJ we n1 mG bQ gj;go_upto_region 13 with fail
   refine v_ (C:=gl bG 5 [(3,w.heap.size+1+1,37,#[a,b,c,e,f,g,h])]) (by kernel_rfl) (by kernel_rfl) (by kernel_rfl) (fun _ _ h=>h.sZ) (gl.start fM.out) ?_;refine lu [_,_,_] [_,_] 0 _ rfl (by simp) ?_
   repeat (go_big_quiet_step (exact rfl))
   refine wpQuiet_nil ?_;refine nx (g:=w.heap.size+1+1) (T:=37) (cs:=[.int .i64 a,b,c,e,f,g,h]) (by simp) (ep.out.apart _ (by simp)) rfl rfl rfl rfl rfl (by kernel_rfl) rfl ?_;refine lu [_] [] _ _ rfl (by simp) ?_
   repeat (go_big_quiet_step (exact rfl))
   refine wpQuiet_nil ?_;refine vN ?_;intro wC hZ jq fi;have mT:=fi.new jq (s:=(3,_,_,_)) (by simp;exact⟨rfl,rfl,rfl⟩) (by simp only;omega);have hL:=hid (fi.kept Jg.out (fun s ax=>by simp only[List.mem_cons,List.not_mem_nil,or_false]at ax;subst ax;simp only;omega));have HR9:=hid ((gV.kept wy.out abK.out).stays (ok:=fun b=>b≠w.heap.size+1+1) (fun b J aL=>fi.block b J (fun s ax=>by simp only[List.mem_cons,List.not_mem_nil,or_false]at ax;subst ax;exact aL)) (fun b J e=>by have:=tx.out b J;omega));have cq:=mT.cell;go_wp2_with fail
   exact bodyPost_ret (v:= .tuple #[.slice mU aoE sF,.agg #[a,b,c,e,f,g,h],()]) (by simp[results,results7,go_sem,cq]) rfl ⟨_,a,b,c,e,f,g,h,0,rfl,hL.out,fun h=>absurd rfl h,fun _=>⟨⟨bh,HR9.out,tD.out.1,tD.out.2⟩,by rw[tk.out.1,h_.out,bk.out],by rw[tk.out.2,FJ.out],fun h=>aV.out.resolve_right h⟩,fun _ _=>rfl⟩
theorem IA {α:Type} {k:Nat} {P:World→Nat→Nat→α→Prop} {w:World} {g:Nat} {x:α} (ai:g<w.heap.size) (h:P w g 0 x):cH k P w (.slice (some ⟨g,0,none⟩) 1 1) [x]:=
 ⟨some ⟨g,0,none⟩,1,rfl,Nat.le_refl _,by simp,fun _=>⟨g,0,rfl,ai,fun j y aB=>by
  match j,aB with
  |0,aB=>cases aB;rw[Nat.zero_mul];exact h⟩⟩
theorem aaG {α:Type} {k:Nat} {P:World→Nat→Nat→α→Prop} {w:World}:cH k P w aR []:=⟨none,0,rfl,Nat.le_refl _,by simp,fun h=>absurd h (by simp)⟩
theorem ahe (w:World):kt w aR []:=⟨gV.nil w _ _,by simp,fun x h=>by cases h⟩
theorem LL {w:World} {g T:Nat} {x:cz} (h:ao w g T #[x.o,x.n]) (af: -9223372036854775808≤x.n∧x.n≤9223372036854775807):kt w (.slice (some ⟨g,0,none⟩) 1 1) [x]:=
 ⟨⟨some ⟨g,0,none⟩,1,rfl,fun _=>⟨g,0,rfl,h.lt,fun j y aB i u hu=>by
  match j,aB with
  |0,aB=>
   cases aB;match i,hu with
   |0,hu=>cases hu;exact h.cell 0
   |1,hu=>cases hu;exact h.cell 1⟩⟩,by simp,fun y db=>by rw[List.mem_singleton.1 db];exact af⟩
theorem ajx {w:World} {g6 g7 g8 g9 anw anx anz anA:Nat} {x:cz} {v:Value} (ay:kt w v [x]) (e0:ao w g6 anw #[.string ⟨#[97]⟩,.int .i64 3,()]) (lW:ao w g7 anx #[.string ⟨#[100]⟩,.int .i64 3,()])
  (h1:ao w g8 anz #[.string ⟨#[98,97,115,101]⟩,(),.int .i64 (-1),(),(),.int .i64 109573,aR,v,.string ⟨#[]⟩])
  (eM:ao w g9 anA #[.string ⟨#[104,111,117,115,101]⟩,.int .i64 (-1),.slice (some ⟨g6,0,none⟩) 1 1,.slice (some ⟨g7,0,none⟩) 1 1,.slice (some ⟨g8,0,none⟩) 1 1]):
  gy w (.agg #[aR,aR,.slice (some ⟨g9,0,none⟩) 1 1]) (iN x):=by
 have z:∀n:Int,n=0∨n=3∨n= -1∨n=109573→ -9223372036854775808≤n∧n≤9223372036854775807:=fun n h=>by omega
 refine⟨_,_,_,rfl,aaG,aaG,IA eM.lt ⟨⟨eM.cell 0,show (⟨#[104,111,117,115,101]⟩:ByteArray).size≤140737488355328 from by decide⟩,⟨eM.cell 1,z _ (by simp[Fp])⟩,⟨_,eM.cell 2,IA e0.lt ⟨⟨e0.cell 0,show (⟨#[97]⟩:ByteArray).size≤140737488355328 from by decide⟩,⟨e0.cell 1,z _ (by simp[s_])⟩,⟨e0.cell 2,z _ (by simp[s_])⟩⟩⟩,
  ⟨_,eM.cell 3,IA lW.lt ⟨⟨lW.cell 0,show (⟨#[100]⟩:ByteArray).size≤140737488355328 from by decide⟩,⟨lW.cell 1,z _ (by simp[s_])⟩,⟨lW.cell 2,z _ (by simp[s_])⟩⟩⟩,
  ⟨_,eM.cell 4,IA h1.lt ⟨⟨h1.cell 0,show (⟨#[98,97,115,101]⟩:ByteArray).size≤140737488355328 from by decide⟩,⟨h1.cell 1,z _ (by simp[CO])⟩,⟨h1.cell 2,z _ (by simp[CO])⟩,⟨h1.cell 3,z _ (by simp[CO])⟩,⟨h1.cell 4,z _ (by simp[CO])⟩,⟨h1.cell 5,z _ (by simp[CO])⟩,⟨_,h1.cell 6,ahe w⟩,⟨_,h1.cell 7,ay⟩,⟨h1.cell 8,show (⟨#[]⟩:ByteArray).size≤140737488355328 from by decide⟩⟩⟩⟩⟩
def Ze (l:cZ) (w:World) (e:Ending) (w':World):Prop:=∃g,e= .returned (.agg #[aR,aR,.slice (some ⟨g,0,none⟩) 1 1])∧gy w' (.agg #[aR,aR,.slice (some ⟨g,0,none⟩) 1 1]) l∧Kept w w'
def Sc (v:Value) (x:cz) (w:World) (e:Ending) (w':World):Prop:=∃g,e= .returned (.agg #[aR,aR,.slice (some ⟨g,0,none⟩) 1 1])∧Kept w w'∧∀X:World,(∀b,w.heap.size<b→b<w'.heap.size→X.heap[b]?=w'.heap[b]?)→kt X v [x]→gy X (.agg #[aR,aR,.slice (some ⟨g,0,none⟩) 1 1]) (iN x)
theorem akm {w:World} {g T:Nat} {x:bg} (h:ao w g T #[x.k,x.e,x.n]):ff w (.slice (some ⟨g,0,none⟩) 1 1) [x]:=
 ⟨some ⟨g,0,none⟩,1,rfl,fun _=>⟨g,0,rfl,h.lt,fun j y aB i u hu=>by
  match j,aB with
  |0,aB=>
   cases aB;match i,hu with
   |0,hu=>cases hu;exact h.cell 0
   |1,hu=>cases hu;exact h.cell 1
   |2,hu=>cases hu;exact h.cell 2⟩⟩
theorem Q4 {w X:World} {g T:Nat} {a b c:Value} (B:ao X g T #[a,b,c]) (aa:Kept w X) (ai:w.heap.size≤g) (x y z:Value):ao (((X.setCell ⟨g,0,none⟩ x).setCell ⟨g,1,none⟩ y).setCell ⟨g,2,none⟩ z) g T #[x,y,z]∧Kept w (((X.setCell ⟨g,0,none⟩ x).setCell ⟨g,1,none⟩ y).setCell ⟨g,2,none⟩ z):=by
 refine⟨?_,?_⟩
 ·have:=((B.aP 0 x).aP 1 y).aP 2 z;simpa using this
 ·repeat refine Kept.setCell ?_ (by simp only;omega) _
  exact aa
theorem aa0 (v:Value) (x:cz) (w:World) (ay:kt w v [x]):Calls prog 13 #[v] w (Sc v x w):=by
 obtain⟨A,c,rfl,-⟩:=id ay.1;clear ay;simp only[List.length_cons,List.length_nil];go_enter func13,ntmps13
 go_upto_region 3 with fail
 generalize ar:((w.alloc _).alloc _).alloc _=W at*;obtain⟨aF,aT,bU,ec⟩:=Kept.b7 ar;clear ar;have mE:=aT.lt;obtain⟨a1,dz⟩:=bU.p;go_upto_region 4 with fail
 generalize ar:W.alloc _=V at*;obtain⟨fq,fB⟩:=Kept.az ar;clear ar;have bB:=aF.trans fq;have c2:=aT.kept fq;have hk:=ec.kept fq;clear a1 dz aT bU ec;clear fq;generalize W.heap.size=g5 at*;obtain⟨bN,h5⟩:=hk.p;obtain⟨bJ,dP⟩:=fB.p;obtain⟨aM,bx,f2⟩:=c2.q;have dc:Kept V ((((V.alloc (.cells #[.string ⟨#[97]⟩,.int .i64 3,()] 102)).alloc (.cells #[.string ⟨#[100]⟩,.int .i64 3,()] 102)).alloc (.cells #[.string ⟨#[98,97,115,101]⟩,(),.int .i64 (-1),(),(),.int .i64 109573,aR,.slice A 1 c,.string ⟨#[]⟩] 82)).alloc (.cells #[.string ⟨#[104,111,117,115,101]⟩,.int .i64 (-1),.slice (some ⟨V.heap.size,0,none⟩) 1 1,.slice (some ⟨V.heap.size+1,0,none⟩) 1 1,.slice (some ⟨V.heap.size+1+1,0,none⟩) 1 1] 64)):=((((aQ V).alloc _).alloc _).alloc _).alloc _;obtain⟨IY,IZ,AZ,nF⟩:=Kept.dy (aQ ((((V.alloc (.cells #[.string ⟨#[97]⟩,.int .i64 3,()] 102)).alloc (.cells #[.string ⟨#[100]⟩,.int .i64 3,()] 102)).alloc (.cells #[.string ⟨#[98,97,115,101]⟩,(),.int .i64 (-1),(),(),.int .i64 109573,aR,.slice A 1 c,.string ⟨#[]⟩] 82)).alloc (.cells #[.string ⟨#[104,111,117,115,101]⟩,.int .i64 (-1),.slice (some ⟨V.heap.size,0,none⟩) 1 1,.slice (some ⟨V.heap.size+1,0,none⟩) 1 1,.slice (some ⟨V.heap.size+1+1,0,none⟩) 1 1] 64)));have f9:=(c2.kept dc).frozen;have eZ:=(c2.kept dc).cell;have bq:=hid (Q4 (c2.kept dc) (bB.trans dc) (Nat.le_refl _) aR aR (.slice (some ⟨V.heap.size+1+1+1,0,none⟩) 1 1));have du:=hid (bB.trans dc);have cv:=hid (And.intro IY (And.intro IZ (And.intro AZ nF)));have rT:=bB.size;have HSZ:=hid (show w.heap.size<V.heap.size from bx);clear aF bB dc c2 hk fB IY IZ AZ nF;go_wp2_with fail
 have cu:=bq.out.1.cell;obtain⟨IY,IZ,AZ,nF⟩:=cv.out;have bQ:=HSZ.out;have SO:=((IY.far (p:=⟨w.heap.size,0,none⟩) (by simp only;omega) aR).far (p:=⟨w.heap.size,1,none⟩) (by simp only;omega) aR).far (p:=⟨w.heap.size,2,none⟩) (by simp only;omega) (.slice (some ⟨V.heap.size+1+1+1,0,none⟩) 1 1);have SP:=((IZ.far (p:=⟨w.heap.size,0,none⟩) (by simp only;omega) aR).far (p:=⟨w.heap.size,1,none⟩) (by simp only;omega) aR).far (p:=⟨w.heap.size,2,none⟩) (by simp only;omega) (.slice (some ⟨V.heap.size+1+1+1,0,none⟩) 1 1);have A2:=((AZ.far (p:=⟨w.heap.size,0,none⟩) (by simp only;omega) aR).far (p:=⟨w.heap.size,1,none⟩) (by simp only;omega) aR).far (p:=⟨w.heap.size,2,none⟩) (by simp only;omega) (.slice (some ⟨V.heap.size+1+1+1,0,none⟩) 1 1);have I0:=((nF.far (p:=⟨w.heap.size,0,none⟩) (by simp only;omega) aR).far (p:=⟨w.heap.size,1,none⟩) (by simp only;omega) aR).far (p:=⟨w.heap.size,2,none⟩) (by simp only;omega) (.slice (some ⟨V.heap.size+1+1+1,0,none⟩) 1 1);exact bodyPost_ret (v:= .agg #[aR,aR,.slice (some ⟨V.heap.size+1+1+1,0,none⟩) 1 1]) (by simp[results,results13,go_sem,cu]) rfl
  ⟨_,rfl,bq.out.2,fun X c5 bM=>ajx bM ((c5 _ (by omega) SO.lt).trans SO) ((c5 _ (by omega) SP.lt).trans SP) ((c5 _ (by omega) A2.lt).trans A2) ((c5 _ (by omega) I0.lt).trans I0)⟩
theorem afY (w:World):Calls prog 12 #[] w (Ze (iN oD) w):=by
 have ch:=hid (fun (v:Value) w1 (h:kt w1 v [oD])=>aa0 v oD w1 h);unfold Sc at ch;go_enter func12,ntmps12
 go_upto_region 1 with fail
 generalize ar:w.alloc _=W at*;obtain⟨aF,a_⟩:=Kept.az ar;clear ar;have uU:=(aQ W).alloc (.cells #[.int .i64 7,()] 69);have bk:=hid (show kt (W.alloc (.cells #[.int .i64 7,()] 69)) (.slice (some ⟨W.heap.size,0,none⟩) 1 1) [oD]from LL (ao.new W 69 #[.int .i64 7,()]) (by decide));have iE:=hid (ao.new W 69 #[.int .i64 7,()]);have cg:=hid (a_.kept uU);have du:=hid (aF.trans uU);have qm:=hid a_.lt;clear aF a_ uU;go_wp2_with (go_at_call 13;refine (ch.out _ _ bk.out).mono ?_;rintro az w1 ⟨g,rfl,ak,bL⟩;have e7:=hid bL;have y_:=hid (iE.out.kept ak);have eP:=cg.out.kept ak;have b5:=eP.cell;have cA:=eP.lt;have f0:=eP.frozen;have bq:=hid (Q4 eP (du.out.trans ak) (Nat.le_refl _) aR aR (.slice (some ⟨g,0,none⟩) 1 1));clear bL eP)
 have cu:=bq.out.1.cell;exact bodyPost_ret (v:= .agg #[aR,aR,.slice (some ⟨g,0,none⟩) 1 1]) (by simp[results,results12,go_sem,cu]) rfl ⟨g,rfl,e7.out _ (fun b J _=>by
  have bQ:b≠w.heap.size:=by have:=qm.out;simp at J;omega
  rw[Below.heap_setCell _ ⟨w.heap.size,2,none⟩ _ b bQ,Below.heap_setCell _ ⟨w.heap.size,1,none⟩ _ b bQ,Below.heap_setCell _ ⟨w.heap.size,0,none⟩ _ b bQ]) (LL (x:=oD) (T:=69) (by
  have:=qm.out;exact ((y_.out.far (p:=⟨w.heap.size,0,none⟩) (by simp only;omega) aR).far (p:=⟨w.heap.size,1,none⟩) (by simp only;omega) aR).far (p:=⟨w.heap.size,2,none⟩) (by simp only;omega) (.slice (some ⟨g,0,none⟩) 1 1)) (by decide)),bq.out.2⟩
def YN (n:Int) (w:World) (e:Ending) (w':World):Prop:=∃g,e= .returned (.agg #[(),.slice (some ⟨g,0,none⟩) 1 1,aR])∧ff w' (.slice (some ⟨g,0,none⟩) 1 1) [⟨3,0,n⟩]∧Kept w w'
theorem afX (n:Int) (w:World):Calls prog 14 #[n] w (YN n w):=by
 go_enter func14,ntmps14
 go_upto_region 1 with fail
 generalize ar:w.alloc _=W at*;obtain⟨aF,a_⟩:=Kept.az ar;clear ar;obtain⟨b5,hw,f0⟩:=a_.q;have cD:=Q4 a_ aF (Nat.le_refl _) () (.slice (some ⟨W.heap.size,0,none⟩) 1 1) aR;have bq:=hid (And.intro (cD.1.alloc (.cells #[.int .i64 3,(),n] 44)) (cD.2.alloc (.cells #[.int .i64 3,(),n] 44)));have cg:=hid (show ao ((((W.setCell ⟨w.heap.size,0,none⟩ ()).setCell ⟨w.heap.size,1,none⟩ (.slice (some ⟨W.heap.size,0,none⟩) 1 1)).setCell ⟨w.heap.size,2,none⟩ aR).alloc (.cells #[.int .i64 3,(),n] 44)) W.heap.size 44 #[.int .i64 3,(),n]from by
  have:=ao.new (((W.setCell ⟨w.heap.size,0,none⟩ ()).setCell ⟨w.heap.size,1,none⟩ (.slice (some ⟨W.heap.size,0,none⟩) 1 1)).setCell ⟨w.heap.size,2,none⟩ aR) 44 #[.int .i64 3,(),n];simpa using this)
 clear cD;clear aF a_;go_wp2_with fail
 have cu:=bq.out.1.cell;exact bodyPost_ret (v:= .agg #[(),.slice (some ⟨W.heap.size,0,none⟩) 1 1,aR]) (by simp[results,results14,go_sem,cu]) rfl ⟨W.heap.size,rfl,akm cg.out,bq.out.2⟩
theorem ajC:Br ([xr].map (lh (iN oD) (iN o_) 0 0)):=by
 rw[List.map_singleton,Sd];exact⟨by decide,by decide⟩
theorem ajs:(mA ([xr].map (lh (iN oD) (iN o_) 0 0)):Int)=1:=by
 rw[List.map_singleton,Sd];unfold mA;rw[List.filter_cons,if_pos (Ox (.inl ⟨rfl,rfl,fun e=>by cases e⟩))];rfl
theorem aju {w:World} {g g3 T:Nat} (aU:ao w g T #[(),.slice (some ⟨g3,0,none⟩) 1 1,aR]) (bC:ff w (.slice (some ⟨g3,0,none⟩) 1 1) [⟨3,0,500⟩]):cH 3 xB w (.slice (some ⟨g,0,none⟩) 1 1) [xr]:=
 IA aU.lt ⟨⟨aU.cell 0,by decide⟩,⟨_,aU.cell 1,bC⟩,by decide,_,aU.cell 2,⟨none,0,rfl,by decide,fun h=>absurd h (by decide)⟩⟩
def aa6 (w:World) (e:Ending) (w':World):Prop:=∃(hs go cap:Nat) (c d f g h:Int),e= .returned (.tuple #[.slice (some ⟨hs,go,none⟩) 1 cap,.agg #[.int .i64 1,.int .i64 1,c,d,f,g,h],()])∧Kept w w'∧
 hs<w'.heap.size∧w'.cell? ⟨hs,go+2,none⟩=some (.int .i64 500)∧w'.cell? ⟨hs,go+5,none⟩=some (.int .i64 700)
theorem ajz {e_ fm bT:Value} {w:World} (aZ:gy w e_ (iN oD)) (J:gy w fm (iN o_)) (aq:cH 3 xB w bT [xr]) (nm:Mon w):Calls prog 7 #[e_,fm,(),bT,()] w (aa6 w):=by
 refine (aat e_ fm bT (iN oD) (iN o_) 0 0 [xr] w aZ J aq (by decide) nm (by decide) (by decide)).mono ?_;rintro r w1 ⟨v,a,b,c,e,f,g,h,k,rfl,ak,-,db,ck⟩;obtain rfl:=ck ajt ajC;obtain⟨⟨xs,aw,hm,-⟩,rfl,rfl,-⟩:=db rfl;rw[List.map_singleton,Sd]at hm;obtain⟨x,rfl⟩:∃x,xs=[x]:=List.length_eq_one_iff.1 (by have:=congrArg List.length hm;simpa using this);have af:x.qN=⟨⟨3,0,500⟩,⟨3,0,700⟩,0,0⟩:=by simpa using hm
 obtain⟨A,cap,rfl,ah⟩:=aw;obtain⟨hs,go,rfl,ic,fH⟩:=ah (Nat.zero_lt_one);refine⟨hs,go,cap,c,e,f,g,h,?_,ak,ic,?_,?_⟩
 ·rw[ajs];rfl
 ·have:=fH 0 x rfl 2 _ rfl;rw[af]at this;simpa using this
 ·have:=fH 0 x rfl 5 _ rfl;rw[af]at this;simpa using this
theorem aiZ (w:World) (nm:Mon w):Calls prog 5 #[] w (fun e w'=>e= .returned (.bool true)∧Kept w w'):=by
 have dn:=hid (afY w);unfold Ze at dn;have ch:=hid (fun (v:Value) w1 (h:kt w1 v [o_])=>aa0 v o_ w1 h);unfold Sc at ch;have bI:=hid (fun w1=>afX 500 w1);unfold YN at bI;have aI:=hid (fun (e_ fm bT:Value) w1 (h:Kept w w1) (aZ:gy w1 e_ (iN oD)) (J:gy w1 fm (iN o_)) (aq:cH 3 xB w1 bT [xr])=>ajz aZ J aq (nm.kept h));unfold aa6 at aI;go_enter func5,ntmps5
 go_upto_region 2 with (first
  |(go_at_call 12;refine dn.out.mono ?_;rintro az w1 ⟨g1,rfl,vr,ak⟩;have ra:=hid vr;clear vr)
  |(go_at_call 13;refine (ch.out _ _ (LL (x:=o_) (ao.new _ _ _) (by decide))).mono ?_;rintro a6 w2 ⟨g2,rfl,a',wX⟩;have bR:=ak.trans (((aQ w1).alloc _).trans a');have HL2:=hid (wX w2 (fun _ _ _=>rfl) ((LL (x:=o_) (ao.new _ _ _) (by decide)).kept a'));have abN:=hid ((ra.out.kept ((aQ w1).alloc _)).kept a');clear wX a')
  |(go_at_call 14;refine (bI.out _).mono ?_;rintro b7 cw ⟨g3,rfl,Wh,bw⟩;have fe:=bR.trans (bw.alloc (.cells #[(),.slice (some ⟨g3,0,none⟩) 1 1,aR] 34));have mu:=hid (And.intro (abN.out.kept (bw.alloc (.cells #[(),.slice (some ⟨g3,0,none⟩) 1 1,aR] 34))) (And.intro (HL2.out.kept (bw.alloc (.cells #[(),.slice (some ⟨g3,0,none⟩) 1 1,aR] 34))) (aju (ao.new cw 34 _) (Wh.kept ((aQ cw).alloc _)))));clear Wh)
  |(go_at_call 7;refine (aI.out _ _ _ _ fe mu.out.1 mu.out.2.1 mu.out.2.2).mono ?_;rintro fh eA ⟨hs,go,cap,c,d,f,g,h,rfl,cG,ic,t2,t5⟩))
 generalize ar:eA.alloc _=X at*;obtain⟨dc,BT⟩:=Kept.az ar;clear ar;have du:=hid ((fe.trans cG).trans dc);replace t2:=dc.ad ic t2;replace t5:=dc.ad ic t5;have e4:=bd ic dc.size;clear dc fe cG ak bR bw;generalize eA.heap.size=gt at*;obtain⟨gX,lt⟩:=BT.p;clear BT;go_wp2_with fail
 go_ret;exact⟨rfl,du.out⟩
section
open Go.ChangeShapes Go.WideShapes Go.ChangeAt Go.RowKit Go.Joins Go.Deep
theorem abb:prog.underlying 27=some (.slice 34):=by kernel_rfl
theorem UN:prog.cellsOf 34=3:=by kernel_rfl
theorem ahu {H:Type} {enc:TypeId×Value→H} {w:World} {base:Nat} {v:Value} {d:DataW H} {p:List MemPlace} (ay:Value.okWide prog w .any base 27 v) (h:DataW.Trod enc prog w 0 (fun _=>true) true 27 v d p) (hw:DK 27 d):∃cs,cH 3 xB w v cs:=by
 obtain⟨IU,hY,b5,rfl⟩:=okWide_slice abb ay;have aH:hd enc w 27 [.slice IU hY b5]:=by
  obtain⟨fuel,bO⟩:=h;exact⟨fuel,_,bO,hw⟩
 exact aH.pc abb UN (by decide) 56 (by kernel_rfl) (by decide) (fun _ h=>As underlying34 UN h) fun cs b o eb aO aN=>by
  obtain⟨bZ,aj⟩:=aN.xf eb aO underlying34 0 0 _ rfl rfl rfl (by decide);obtain⟨u1,g1,im⟩:=aN.vR underlying34 1 1 31 _ rfl rfl rfl (by kernel_rfl) (by omega);obtain⟨u2,g2,i_⟩:=aN.vR underlying34 2 2 32 _ rfl rfl rfl (by kernel_rfl) (by omega);obtain⟨ins,i1,i2⟩:=ZV im.reads;obtain⟨mem,m1⟩:=ahw i_.reads;exact⟨⟨bZ,ins,mem⟩,aj,⟨u1,(aO 1 (by decide)).trans g1,i1⟩,i2,u2,(aO 2 (by decide)).trans g2,m1⟩
end
end Go.Proofs.YtobpgndkciofhaaGreatDoor
