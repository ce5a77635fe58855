import Derived.Test.YtobpgndkciofhaaGreatDoorG
import Derived.Test.YtobpgndkciofhaaGreatDoorI
import Derived.Test.YtobpgndkciofhaaGreatDoorL
set_option linter.all false
namespace Go.Proofs.YtobpgndkciofhaaGreatDoor
open Go.RowKit Go.Proofs.Tryz
open Go.Lib (hid)
set_option maxRecDepth 100000
set_option maxHeartbeats 16000000
theorem h'.some_ {w:World} {B R:Nat} {v:Value} {l:List Int} (h:h' w B R v l) (hp:0<l.length):∃g cap,v= .slice (some ⟨g,0,none⟩) l.length cap:=by
 rcases h.own.2 with⟨_,aj⟩|⟨g,cap,_,aj,_⟩
 ·omega
 ·exact⟨g,cap,aj⟩
def aad (B R:Nat) (v:Value) (l:List Int) (x:Int) (w:World) (e:Ending) (w':World):Prop:=e= .returned (.tuple #[])∧∃v',h' w' B R v' (vT l x)∧Two w w' v.ownBlock R∧(v'.ownBlock=v.ownBlock∨∃g,v'.ownBlock=some g∧w.heap.size≤g)
theorem Xc (B R:Nat) (v:Value) (l:List Int) (x:Int) (w:World) (h:h' w B R v l) (aq:l.length≤900000) (aU:B≤w.heap.size):
  Calls prog 72 #[.iface 176 (.pointer (some ⟨R,0,none⟩)),.iface 3 x] w (aad B R v l x w):=by
 have cV:=hid (afh B R v l x w h (by omega) aU);have cD:=hid (show∀(w1:World) (v1:Value),h' w1 B R v1 (l++[x])→Two w w1 v.ownBlock R→(v1.ownBlock=v.ownBlock∨∃g,v1.ownBlock=some g∧w.heap.size≤g)→∃g cap,v1= .slice (some ⟨g,0,none⟩) (l.length+1) cap∧w1.cell? ⟨R,0,none⟩=some v1∧
   Calls prog 100 #[.iface 176 (.pointer (some ⟨R,0,none⟩)),l.length] w1 fun e w'=>e= .returned (.tuple #[])∧aad B R v l x w (.returned (.tuple #[])) w' from fun w1 v1 I U ae=>by
  obtain⟨g,cap,rfl⟩:=I.some_ (by simp);refine⟨g,cap,by rw[List.length_append];rfl,I.cell,(hup B R g cap (l++[x]) l.length (l.length+1) w1 I (by simp) (by omega) (by rw[List.length_append,List.length_singleton];omega)).mono ?_⟩;rintro e w' ⟨rfl,aJ,bp⟩;refine⟨rfl,rfl,_,?_,U.trans bp ae,ae⟩;unfold vT;have a6:(uD (l.length+1) (l++[x]) l.length).length=(l++[x]).length:=akg _ _ _;exact aJ)
 have yn:=(agP 432 R w:(method 433 _ _ _).run _ _=_);have Ep:(l.length:Int)≤900000:=by omega
 clear h aq aU;generalize l.length=n at*;go_enter func72,ntmps72
 go_upto_region 1 with (go_at_call 238;refine cV.out.mono ?_;rintro e w1 ⟨rfl,v1,I,U,ae⟩;have bz:=hid (cD.out w1 v1 I U ae);clear I U ae)
 obtain⟨g,cap,rfl,ah,Yo⟩:=bz.out;have kD:=(Zg 432 R _ w1 ah:(method 433 _ _ _).run _ _=_);have xN:=hid Yo;clear Yo bz yn;go_wp2_with (first|(go_at_call 73;refine (hlen _ _ _ _).mono ?_;rintro e w2 ⟨rfl,rfl⟩)|(go_at_call 100;refine xN.out.mono ?_;rintro e w2 ⟨rfl,bp⟩;have kO:=hid bp;clear bp))
 go_end0
 exact kO.out
theorem aeW (B R g cap:Nat) (l:List Int) (w:World) (h:h' w B R (.slice (some ⟨g,0,none⟩) l.length cap) l) (hp:0<l.length) (aq:l.length≤900000):
  Calls prog 74 #[.iface 176 (.pointer (some ⟨R,0,none⟩))] w fun e w'=>e= .returned (.iface 3 (.int .i64 (qV l)))∧h' w' B R (.slice (some ⟨g,0,none⟩) (l.length-1) cap) (r6 l)∧Two w w' (some g) R:=by
 obtain⟨cur,aU,-,cx,-,-,-,-,oX⟩:=h.row;obtain⟨m,hm⟩:∃m,m=l.length-1:=⟨_,rfl⟩;have gR:m<l.length:=by omega
 have az:((l.length:Int)-1)=(m:Int):=by omega
 have zp:=hid (Qv g cap l.length 0 m 0 m rfl rfl cur (c4 l 0) (c4 l m) w hp gR aU (oX 0 hp) (oX m gR));have ab1:=hid (fun w1=>h.swap (w':=w1) aU hp gR);have cB:=hid (fun w1 (I:h' w1 B R (.slice (some ⟨g,0,none⟩) l.length cap) (mO l 0 m))=>(by
  have U:=aeV B R g cap m (mO l 0 m) w1 (by rw[oI];exact I) (by rw[oI];exact gR) (by rw[oI];omega);rw[oI]at U;have e:rC l.length (mO l 0 m) 0 m=uw l:=by unfold uw;rw[←hm]
  rwa [e]at U:Calls prog 101 #[.iface 176 (.pointer (some ⟨R,0,none⟩)),(),.int .i64 m] w1 fun e w'=>SI e∧h' w' B R (.slice (some ⟨g,0,none⟩) l.length cap) (uw l)∧Two w1 w' (some g) R))
 have cV:=hid (fun w1 (I:h' w1 B R (.slice (some ⟨g,0,none⟩) l.length cap) (uw l))=>(by
  have U:=aff B R g cap (uw l) w1 (by rw[E_];exact I) (by rw[E_];exact hp) (by rw[E_];omega);rw[E_]at U;exact U:Calls prog 237 #[.pointer (some ⟨R,0,none⟩)] w1 fun e w'=>e= .returned (.iface 3 (.int .i64 (qV l)))∧h' w' B R (.slice (some ⟨g,0,none⟩) (l.length-1) cap) (r6 l)∧Two w1 w' (some g) R))
 have yn:=(Zg 432 R _ w h.cell:(method 433 _ _ _).run _ _=_);have kD:=(Aw 432 R _ w h.cell:(method 433 _ _ _).run _ _=_);have Ep:(l.length:Int)≤900000:=by omega
 clear h aq oX aU hm;generalize qV l=eK at*;generalize r6 l=fa at*;generalize uw l=pl at*;generalize mO l 0 m=aoL at*;generalize l.length=n at*;go_enter func74,ntmps74
 go_upto_region 3 with (first|(go_at_call 73;refine (hlen _ _ _ _).mono ?_;rintro e w2 ⟨rfl,rfl⟩)|(go_at_call 239;refine zp.out.mono ?_;rintro e w1 ⟨rfl,I,U⟩;have bz:=hid (And.intro (ab1.out w1 I U) U);clear I U))
 have I6:=hid (cB.out w1 bz.out.1);go_upto_region 4 with (go_at_call 101;refine I6.out.mono ?_;rintro e w2 ⟨⟨b,rfl⟩,ae,aJ⟩;have xK:=hid (And.intro ae aJ);clear ae aJ)
 have iJ:=(agO 432 R w2:(method 433 _ _ _).run _ _=_);have HP1:=hid (cV.out w2 xK.out.1);go_wp2_with (go_at_call 237;refine HP1.out.mono ?_;rintro e cw ⟨rfl,bp,eJ⟩;have tz:=hid (And.intro bp eJ);clear bp eJ)
 go_ret;exact⟨rfl,tz.out.1,((Two.uv (r:=R) bz.out.2).trans xK.out.2 (.inl rfl)).trans tz.out.2 (.inl rfl)⟩
def mL (s:jl) (o n:Int) (ba:List cO):cO×Int:=
 if 1≤o∧o≤5 then E0 s.ms n o else if o=6 then D0 s.ms n else if o=7 then o8 s.ms n s.ins else if o=8 then o8 s.ms n s.ds else if o=9 then (⟨5,0⟩,0)
 else if o=33∨o=34 then Fm s o n (ba[0]?.getD t0)else if 35≤o∧o≤39 then CE s o n
 else if 14≤o∧o≤16∧xu n=false then (t0,3)else if (iK o (ba[0]?.getD t0) (ba[1]?.getD t0) (ba[2]?.getD t0)).2=true then ((iK o (ba[0]?.getD t0) (ba[1]?.getD t0) (ba[2]?.getD t0)).1,0)else (t0,8)
theorem aeN {w W w1:World} {g:Nat} {t:TypeId} (k e:Int) (aU:ao W g t #[(),()]) (ab:Kept w W) (ai:w.heap.size≤g) (h:Kept W w1):
  ao ((w1.setCell ⟨g,0,none⟩ k).setCell ⟨g,1,none⟩ e) g t #[k,e]∧Kept w ((w1.setCell ⟨g,0,none⟩ k).setCell ⟨g,1,none⟩ e):=
 hi k e (aU.kept h) (ab.trans h) ai
theorem ZK (o n:Int) (bT:Value) (ba:List cO) (b2:Value) (s:jl) (w:World) (bL:kb w bT ba) (bj:nO w b2 s) (aA:n≤9223372036854775807) (aL:(1≤o∧o≤9)∨(35≤o∧o≤39)):Calls prog 170 #[.agg #[o,n],bT,b2] w (oJ (mL s o n ba) w):=by
 have cD:=hid (fun w1 (h:Kept w w1)=>bj.kept h);obtain⟨St,ad,rfl,-⟩:=bL.at_;obtain⟨cY,ce,cU,cW,dS,ci,gJ,b_,eH,hg,rfl,-,-,bC,b',-⟩:=bj.form;have dn:=hid (fun w1 (h:Kept w w1)=>bC.kept h);have cB:=hid (fun w1 (h:Kept w w1)=>b'.kept h);have C8:=hid (fun k w1 (h:Kept w w1)=>agH n k _ s w1 (cD.out w1 h));have FN:=hid (fun w1 (h:Kept w w1)=>aei n _ s w1 (cD.out w1 h) aA);have Ty:=hid (fun w1 (h:Kept w w1)=>Q6 n _ s.ins _ s w1 (dn.out w1 h) (cD.out w1 h) aA);have Tz:=hid (fun w1 (h:Kept w w1)=>Q6 n _ s.ds _ s w1 (cB.out w1 h) (cD.out w1 h) aA);have tt:=hid (fun aL w1 (h:Kept w w1)=>agT o n _ s w1 (cD.out w1 h) aL aA);unfold oJ at C8 FN Ty Tz tt⊢;obtain⟨R,aw⟩:∃R,R=mL s o n ba:=⟨_,rfl⟩;rw[←aw];unfold mL at aw;have dW:=hid (show (1≤o∧o≤5→R=E0 s.ms n o)∧(o=6→R=D0 s.ms n)∧(o=7→R=o8 s.ms n s.ins)∧(o=8→R=o8 s.ms n s.ds)∧(o=9→R=(⟨5,0⟩,0))∧(35≤o∧o≤39→R=CE s o n)from
  ⟨fun h=>by rw[aw,if_pos h],fun h=>by rw[aw,if_neg (by omega),if_pos h],fun h=>by rw[aw,if_neg (by omega),if_neg (by omega),if_pos h],fun h=>by rw[aw,if_neg (by omega),if_neg (by omega),if_neg (by omega),if_pos h],
   fun h=>by rw[aw,if_neg (by omega),if_neg (by omega),if_neg (by omega),if_neg (by omega),if_pos h],fun h=>by rw[aw,if_neg (by omega),if_neg (by omega),if_neg (by omega),if_neg (by omega),if_neg (by omega),if_neg (by omega),if_pos h]⟩)
 generalize E0 s.ms n=F at*;generalize D0 s.ms n=aon at*;generalize o8 s.ms n s.ins=aoo at*;generalize o8 s.ms n s.ds=aop at*;generalize CE s=M at*;generalize ba.length=uo at*;generalize s.ms.length=dN at*;generalize s.tb.length=dh at*;generalize s.ins.length=b1 at*;generalize s.ds.length=cS at*;generalize s.md.length=ew at*;clear bL bj bC b' aw cD dn cB;go_enter func170,ntmps170
 go_upto_region 2 with fail
 generalize ar:((w.alloc _).alloc _).alloc _=W at*;obtain⟨aW,aS,aT,bU⟩:=Kept.b7 ar;clear ar;obtain⟨aC,a7⟩:=aS.p;obtain⟨aM,bx⟩:=aT.p;obtain⟨a1,dz,f3⟩:=bU.q;have afd:o=1∨o=2∨o=3∨o=4∨o=5∨o=6∨o=7∨o=8∨o=9∨o=35∨o=36∨o=37∨o=38∨o=39:=by omega
 clear aL;have aV:=hid (fun (k e:Int) w1 (h:Kept W w1)=>aeN k e bU aW (show w.heap.size≤w.heap.size+1+1 by omega) h);have cg:=hid (fun w1 (h:Kept W w1)=>bU.kept h);clear aS aT bU;rcases afd with rfl|rfl|rfl|rfl|rfl|rfl|rfl|rfl|rfl|rfl|rfl|rfl|rfl|rfl
 case' inr.inr.inr.inr.inr.inr.inr.inr.inl=>
  have au:=dW.out.2.2.2.2.1 rfl;have bz:=hid au;clear au;go_wp2_with fail
  obtain⟨cC,al⟩:=aV.out 5 0 W (aQ W);have cq:=cC.cell;exact bodyPost_ret (v:= .tuple #[.agg #[.int .i64 5,()],()]) (by simp[results,results170,go_sem,cq]) rfl ⟨by rw[bz.out],al⟩
 all_goals
  first
  |(have c5:R=F 1:=dW.out.1 (by decide)
    have bI:=hid (C8.out 1 W aW);rw[←c5]at bI;clear c5;go_wp2_with (go_at_call 182;refine bI.out.mono ?_;rintro az w1 ⟨rfl,ak⟩;have dx:=cg.out w1 ak;have d3:=dx.cell;have b7:=dx.frozen;have m3:=dx.lt))
  |(have c5:R=F 2:=dW.out.1 (by decide)
    have bI:=hid (C8.out 2 W aW);rw[←c5]at bI;clear c5;go_wp2_with (go_at_call 182;refine bI.out.mono ?_;rintro az w1 ⟨rfl,ak⟩;have dx:=cg.out w1 ak;have d3:=dx.cell;have b7:=dx.frozen;have m3:=dx.lt))
  |(have c5:R=F 3:=dW.out.1 (by decide)
    have bI:=hid (C8.out 3 W aW);rw[←c5]at bI;clear c5;go_wp2_with (go_at_call 182;refine bI.out.mono ?_;rintro az w1 ⟨rfl,ak⟩;have dx:=cg.out w1 ak;have d3:=dx.cell;have b7:=dx.frozen;have m3:=dx.lt))
  |(have c5:R=F 4:=dW.out.1 (by decide)
    have bI:=hid (C8.out 4 W aW);rw[←c5]at bI;clear c5;go_wp2_with (go_at_call 182;refine bI.out.mono ?_;rintro az w1 ⟨rfl,ak⟩;have dx:=cg.out w1 ak;have d3:=dx.cell;have b7:=dx.frozen;have m3:=dx.lt))
  |(have c5:R=F 5:=dW.out.1 (by decide)
    have bI:=hid (C8.out 5 W aW);rw[←c5]at bI;clear c5;go_wp2_with (go_at_call 182;refine bI.out.mono ?_;rintro az w1 ⟨rfl,ak⟩;have dx:=cg.out w1 ak;have d3:=dx.cell;have b7:=dx.frozen;have m3:=dx.lt))
  |(have c5:=dW.out.2.1 rfl
    have bI:=hid (FN.out W aW);rw[←c5]at bI;clear c5;go_wp2_with (go_at_call 183;refine bI.out.mono ?_;rintro az w1 ⟨rfl,ak⟩;have dx:=cg.out w1 ak;have d3:=dx.cell;have b7:=dx.frozen;have m3:=dx.lt))
  |(have c5:=dW.out.2.2.1 rfl
    have bI:=hid (Ty.out W aW);rw[←c5]at bI;clear c5;go_wp2_with (go_at_call 184;refine bI.out.mono ?_;rintro az w1 ⟨rfl,ak⟩;have dx:=cg.out w1 ak;have d3:=dx.cell;have b7:=dx.frozen;have m3:=dx.lt))
  |(have c5:=dW.out.2.2.2.1 rfl
    have bI:=hid (Tz.out W aW);rw[←c5]at bI;clear c5;go_wp2_with (go_at_call 184;refine bI.out.mono ?_;rintro az w1 ⟨rfl,ak⟩;have dx:=cg.out w1 ak;have d3:=dx.cell;have b7:=dx.frozen;have m3:=dx.lt))
  |(have c5:=dW.out.2.2.2.2.2 (by decide)
    have bI:=hid (tt.out (by decide) W aW);rw[←c5]at bI;clear c5;go_wp2_with (go_at_call 186;refine bI.out.mono ?_;rintro az w1 ⟨rfl,ak⟩;have dx:=cg.out w1 ak;have d3:=dx.cell;have b7:=dx.frozen;have m3:=dx.lt))
  obtain⟨cC,al⟩:=aV.out R.1.k R.1.e w1 ak;have cq:=cC.cell;exact bodyPost_ret (v:= .tuple #[.agg #[R.1.k,R.1.e],R.2]) (by simp[results,results170,go_sem,cq]) rfl ⟨rfl,al⟩
theorem ZL (o n:Int) (bT:Value) (ba:List cO) (b2:Value) (s:jl) (w:World) (bL:kb w bT ba) (I:0<ba.length) (bj:nO w b2 s) (aA:n≤9223372036854775807) (aL:o=33∨o=34):Calls prog 170 #[.agg #[o,n],bT,b2] w (oJ (mL s o n ba) w):=by
 have cD:=hid (fun w1 (h:Kept w w1)=>bj.kept h);obtain⟨St,ad,rfl,af⟩:=bL.at_;obtain⟨b,off,rfl,J,ah⟩:=af I;have ai:ba[0]?=some ba[0]:=a8 I;obtain⟨bZ,b3⟩:=ah 0 _ ai;simp only[Nat.zero_mul,Nat.add_zero]at bZ b3;obtain⟨cY,ce,cU,cW,dS,ci,gJ,b_,eH,hg,rfl,-⟩:=bj.form;have aw:mL s o n ba=Fm s o n ba[0]:=by
  unfold mL;rw[if_neg (by omega),if_neg (by omega),if_neg (by omega),if_neg (by omega),if_neg (by omega),if_pos aL,ai,Option.getD_some]
 rw[aw];clear aw ai ah af;generalize ba[0]=T at*;obtain⟨k,e⟩:=T;have ch:=hid (fun w1 (h:Kept w w1)=>ajq o n k e _ s w1 (cD.out w1 h) aL aA);unfold oJ at ch⊢;dsimp only at bZ b3;generalize Fm s o n ⟨k,e⟩=R at*;obtain⟨⟨eX,gw⟩,rc⟩:=R;dsimp only at ch⊢;have oz:(0:Int)<ba.length:=by omega
 generalize ba.length=uo at*;generalize s.ms.length=dN at*;generalize s.tb.length=dh at*;generalize s.ins.length=b1 at*;generalize s.ds.length=cS at*;generalize s.md.length=ew at*;clear bL bj cD;go_enter func170,ntmps170
 go_upto_region 2 with fail
 generalize ar:((w.alloc _).alloc _).alloc _=W at*;obtain⟨aW,aS,aT,bU⟩:=Kept.b7 ar;clear ar;have fO:=bd J aW.size;have z0:=al.cell fO (aW.ad J bZ);have e6:=al.cell fO (aW.ad J b3);have a0:=al.cell aS.lt (aS.cell 0);have cE:=al.cell aS.lt (aS.cell 1);have jw:=al.cell aT.lt (aT.cell 0);have s1:=al.cell aT.lt (aT.cell 1);have s2:=al.cell aT.lt (aT.cell 2);have an4:=al.cell aT.lt (aT.cell 3);have RX:=al.cell aT.lt (aT.cell 4);have oF:=al.cell aT.lt (aT.cell 5);clear bZ b3;rcases aL with rfl|rfl
 all_goals
  go_upto_region 22 with fail
  refine v8 8 (by kernel_rfl) (by kernel_rfl) ?_;simp only[List.take_succ_cons,List.take_zero,List.drop_succ_cons,List.drop_zero]
  repeat (go_big_quiet_step ((go_at_call 185;with_reducible exact al.call (ch.out _ (aW.trans (al.h _))))))
  refine wpQuiet_nil ?_;rintro w2 ⟨⟨bt,cj⟩,bb⟩;obtain rfl:w2=bt:=bb;clear z0 e6 a0 cE jw s1 s2 an4 RX oF;have fu:=bU.kept cj;obtain⟨d3,dl,bK⟩:=fu.q;go_wp2_with fail
  obtain⟨cC,al⟩:=hi eX gw fu (aW.trans cj) (by omega);have cq:=cC.cell;exact bodyPost_ret (v:= .tuple #[.agg #[eX,gw],rc]) (by simp[results,results170,go_sem,cq]) rfl ⟨rfl,al⟩
theorem ahn (o n:Int) (bT:Value) (ba:List cO) (b2:Value) (s:jl) (w:World) (bL:kb w bT ba) (nZ:dY o=ba.length) (bj:nO w b2 s) (aL:10≤o∧o≤32):Calls prog 170 #[.agg #[o,n],bT,b2] w (oJ (mL s o n ba) w):=by
 have lG:=hid (fun w1 (h:Kept w w1)=>ah7 o bT ba w1 (bL.kept h) nZ aL);have TW:=hid (fun w1=>VB n w1);obtain⟨St,ad,rfl,-⟩:=bL.at_;obtain⟨cY,ce,cU,cW,dS,ci,gJ,b_,eH,hg,rfl,-⟩:=bj.form;have aw:mL s o n ba=if 14≤o∧o≤16∧xu n=false then (t0,3)else if (iK o (ba[0]?.getD t0) (ba[1]?.getD t0) (ba[2]?.getD t0)).2=true then ((iK o (ba[0]?.getD t0) (ba[1]?.getD t0) (ba[2]?.getD t0)).1,0)else (t0,8):=by
  unfold mL;rw[if_neg (by omega),if_neg (by omega),if_neg (by omega),if_neg (by omega),if_neg (by omega),if_neg (by omega),if_neg (by omega)]
 unfold jc at lG;unfold oJ;generalize mL s o n ba=R at*;generalize iK o (ba[0]?.getD t0) (ba[1]?.getD t0) (ba[2]?.getD t0)=Q at*;obtain⟨⟨qX,qW⟩,ux⟩:=Q;dsimp only at*;generalize ba.length=uo at*;generalize s.ms.length=dN at*;generalize s.tb.length=dh at*;generalize s.ins.length=b1 at*;generalize s.ds.length=cS at*;generalize s.md.length=ew at*;have aI:=hid aw;clear bL bj aw nZ;go_enter func170,ntmps170
 go_upto_region 2 with fail
 generalize ar:((w.alloc _).alloc _).alloc _=W at*;obtain⟨aW,aS,aT,bU⟩:=Kept.b7 ar;clear ar;obtain⟨aC,a7⟩:=aS.p;obtain⟨a1,dz,f3⟩:=bU.q;have aV:=hid (fun (k e:Int) w1 (h:Kept W w1)=>hi k e ((bU.kept h).alloc (.cells #[qX,qW] 57)) ((aW.trans h).alloc _) (show w.heap.size≤w.heap.size+1+1 by omega));have cg:=hid (fun w1 (h:Kept W w1)=>(bU.kept h).alloc (.cells #[qX,qW] 57));have oQ:=hid (hi 0 0 bU aW (show w.heap.size≤w.heap.size+1+1 by omega));clear aS aT bU;by_cases hm:14≤o∧o≤16
 case neg=>
  obtain⟨en,dQ,iC,qQ,uk,yC,Rh,E6,s0,n33,n34,n35,n36,n37,n38,n39,n14,n15,n16⟩:(o==1)=false∧(o==2)=false∧(o==3)=false∧(o==4)=false∧(o==5)=false∧(o==6)=false∧(o==7)=false∧(o==8)=false∧(o==9)=false∧(o==33)=false∧(o==34)=false∧(o==35)=false∧(o==36)=false∧(o==37)=false∧(o==38)=false∧(o==39)=false∧(o==14)=false∧(o==15)=false∧(o==16)=false:=by refine⟨?_,?_,?_,?_,?_,?_,?_,?_,?_,?_,?_,?_,?_,?_,?_,?_,?_,?_,?_⟩<;>(simp;omega)
  have iJ:¬(14≤o∧o≤16∧xu n=false):=fun h=>hm ⟨h.1,h.2.1⟩;replace aI:=hid (aI.out.trans (if_neg iJ));clear hm iJ aL
  cases ux
  ·have au:=hid (show R=(t0,8) by rw[aI.out];simp);go_wp2_with (go_at_call 188;refine (lG.out _ aW).mono ?_;rintro az w1 ⟨rfl,ak⟩;have dx:=cg.out w1 ak;have oN:=ao.new w1 57 #[qX,qW];have d3:=dx.cell;have b7:=dx.frozen;have m3:=dx.lt;have d8:=oN.cell;have m8:=oN.lt)
   obtain⟨cC,al⟩:=aV.out 0 0 w1 ak;have cq:=cC.cell;exact bodyPost_ret (v:= .tuple #[.agg #[(),()],.int .i64 8]) (by simp[results,results170,go_sem,cq]) rfl ⟨by rw[au.out];rfl,al⟩
  ·have au:=hid (show R=(⟨qX,qW⟩,0) by rw[aI.out];simp);go_wp2_with (go_at_call 188;refine (lG.out _ aW).mono ?_;rintro az w1 ⟨rfl,ak⟩;have dx:=cg.out w1 ak;have oN:=ao.new w1 57 #[qX,qW];have d3:=dx.cell;have b7:=dx.frozen;have m3:=dx.lt;have d8:=oN.cell;have m8:=oN.lt)
   obtain⟨cC,al⟩:=aV.out qX qW w1 ak;have cq:=cC.cell;exact bodyPost_ret (v:= .tuple #[.agg #[qX,qW],()]) (by simp[results,results170,go_sem,cq]) rfl ⟨by rw[au.out],al⟩
 obtain rfl|rfl|rfl:o=14∨o=15∨o=16:=by omega
 all_goals
  cases ay:xu n
  ·have px:=hid (fun w1=>(by have:=TW.out w1;rwa [ay]at this:Calls prog 187 #[n] w1 fun r w'=>r= .returned (.bool false)∧w1=w'));have au:=hid (show R=(t0,3) by rw[aI.out,if_pos ⟨by decide,by decide,ay⟩]);obtain⟨cC,al⟩:=oQ.out;have cq:=cC.cell;go_wp2_with (go_at_call 187;refine (px.out _).mono ?_;rintro az w1 ⟨rfl,rfl⟩)
   exact bodyPost_ret (v:= .tuple #[.agg #[(),()],.int .i64 3]) (by simp[results,results170,go_sem,cq]) rfl ⟨by rw[au.out];rfl,al⟩
  ·have px:=hid (fun w1=>(by have:=TW.out w1;rwa [ay]at this:Calls prog 187 #[n] w1 fun r w'=>r= .returned (.bool true)∧w1=w'));replace aI:=hid (aI.out.trans (if_neg (fun h=>by rw[ay]at h;exact absurd h.2.2 (by decide))));go_upto_region 34 with (go_at_call 187;refine (px.out _).mono ?_;rintro az w1 ⟨rfl,rfl⟩)
   cases ux
   ·have au:=hid (show R=(t0,8) by rw[aI.out];simp);go_wp2_with (go_at_call 188;refine (lG.out _ aW).mono ?_;rintro az w1 ⟨rfl,ak⟩;have dx:=cg.out w1 ak;have oN:=ao.new w1 57 #[qX,qW];have d3:=dx.cell;have b7:=dx.frozen;have m3:=dx.lt;have d8:=oN.cell;have m8:=oN.lt)
    obtain⟨cC,al⟩:=aV.out 0 0 w1 ak;have cq:=cC.cell;exact bodyPost_ret (v:= .tuple #[.agg #[(),()],.int .i64 8]) (by simp[results,results170,go_sem,cq]) rfl ⟨by rw[au.out];rfl,al⟩
   ·have au:=hid (show R=(⟨qX,qW⟩,0) by rw[aI.out];simp);go_wp2_with (go_at_call 188;refine (lG.out _ aW).mono ?_;rintro az w1 ⟨rfl,ak⟩;have dx:=cg.out w1 ak;have oN:=ao.new w1 57 #[qX,qW];have d3:=dx.cell;have b7:=dx.frozen;have m3:=dx.lt;have d8:=oN.cell;have m8:=oN.lt)
    obtain⟨cC,al⟩:=aV.out qX qW w1 ak;have cq:=cC.cell;exact bodyPost_ret (v:= .tuple #[.agg #[qX,qW],()]) (by simp[results,results170,go_sem,cq]) rfl ⟨by rw[au.out],al⟩
def xQ:List cz→Nat→Prop
 |[],h=>h=1
 |x::r,h=>∃a:Nat,dY x.o=a∧a≤h∧h-a+1≤12∧xQ r (h-a+1)
theorem aaP:∀(r:List cz) (i:Nat) (bs di:List Nat),(jS r i bs di).2.2=0→(r≠[]∨bs≠[])→xQ r bs.length
 |[],i,bs,di,h,bQ=>by
  rw[jS]at h;split at h
  ·exact absurd (show (4:Int)=0 from h) (by decide)
  ·have:bs.length≠0:=fun e=>by
    rcases bQ with I|I
    ·exact I rfl
    ·exact I (List.length_eq_zero_iff.1 e)
   show bs.length=1;omega
 |x::r,i,bs,di,h,bQ=>by
  rw[jS]at h;split at h
  ·exact absurd (show (2:Int)=0 from h) (by decide)
  ·rename_i aj;split at h
   ·exact absurd (show (5:Int)=0 from h) (by decide)
   ·rename_i I;split at h
    ·exact absurd (show (16:Int)=0 from h) (by decide)
    ·rename_i U;have bH:=aaP r (i+1) _ _ h (.inr (by simp));have aq:(bs.take (bs.length-(dY x.o).toNat)++[kA i (dY x.o).toNat bs]).length=bs.length-(dY x.o).toNat+1:=by
      rw[List.length_append,List.length_take,Nat.min_eq_left (Nat.sub_le _ _)];rfl
     rw[aq]at bH U;exact⟨(dY x.o).toNat,by omega,by omega,by omega,bH⟩
theorem aaS {e:List cz} (h:(cF e).2.2=0):0<e.length∧e.length≤48∧xQ e 0:=by
 unfold cF at h;split at h
 ·exact absurd (show (4:Int)=0 from h) (by decide)
 ·rename_i I;split at h
  ·exact absurd (show (5:Int)=0 from h) (by decide)
  ·rename_i U;refine⟨by omega,by omega,?_⟩;have:=aaP e 0 [] [] h (.inl fun gY=>U (by rw[gY];rfl));exact this
theorem xQ.at_ {xs:List cz} {i h:Nat} {x:cz} (af:xs[i]?=some x) (bb:xQ (xs.drop i) h):∃a:Nat,dY x.o=a∧a≤h∧h-a+1≤12∧xQ (xs.drop (i+1)) (h-a+1):=by
 obtain⟨aE,rfl⟩:=b8 af;rw[List.drop_eq_getElem_cons aE]at bb;exact bb
theorem xQ.end_ {xs:List cz} {i h:Nat} (aE:¬i<xs.length) (bb:xQ (xs.drop i) h):h=1:=by
 rw[List.drop_eq_nil_iff.2 (show xs.length≤i by omega)]at bb;exact bb
def xt (s:jl):List cz→List cO→cO×Int
 |[],st=>(st[0]?.getD t0,0)
 |x::r,st=>
  if x.n≠0∧yV x.o=false then (t0,2)
  else if (mL s x.o x.n (st.drop (st.length-(dY x.o).toNat))).2≠0 then (t0,(mL s x.o x.n (st.drop (st.length-(dY x.o).toNat))).2)
  else xt s r (st.take (st.length-(dY x.o).toNat)++[(mL s x.o x.n (st.drop (st.length-(dY x.o).toNat))).1])
def q1 (s:jl) (e:List cz):cO×Int:=if (cF e).2.2≠0 then (t0,(cF e).2.2)else xt s e []
theorem ajM {s:jl} {xs:List cz} {i m a:Nat} {x:cz} {st:List cO} (af:xs[i]?=some x) (aZ:dY x.o=a) (aq:st.length=m+a):xt s (xs.drop i) st=
  if x.n≠0∧yV x.o=false then (t0,2)else if (mL s x.o x.n (st.drop m)).2≠0 then (t0,(mL s x.o x.n (st.drop m)).2)else xt s (xs.drop (i+1)) (st.take m++[(mL s x.o x.n (st.drop m)).1]):=by
 obtain⟨aE,rfl⟩:=b8 af;rw[List.drop_eq_getElem_cons aE,xt,aZ,aq,Int.toNat_natCast,Nat.add_sub_cancel]
def Si (R:cO×Int) (w:World) (r:Ending) (w':World):Prop:=∃i:Int,r= .returned (.tuple #[.agg #[R.1.k,R.1.e],i,R.2])∧Kept w w'
theorem Mz {R:cO×Int} {w w':World} {k e c:Int} (i:Int) (h:R=(⟨k,e⟩,c)) (aa:Kept w w'):Si R w (.returned (.tuple #[.agg #[k,e],i,c])) w':=by
 subst h;exact⟨i,rfl,aa⟩
theorem ahm (o n:Int) (bT:Value) (ba:List cO) (b2:Value) (s:jl) (w:World) (bL:kb w bT ba) (nZ:dY o=ba.length) (bj:nO w b2 s) (aA:n≤9223372036854775807):Calls prog 170 #[.agg #[o,n],bT,b2] w (oJ (mL s o n ba) w):=by
 have ah:(1≤o∧o≤9)∨(35≤o∧o≤39)∨o=33∨o=34∨(10≤o∧o≤32):=by
  rcases Decidable.em ((1≤o∧o≤9)∨(35≤o∧o≤39)∨o=33∨o=34∨(10≤o∧o≤32))with h|h
  ·exact h
  ·unfold dY at nZ;rw[if_neg (by omega),if_neg (by omega),if_neg (by omega),if_neg (by omega)]at nZ;omega
 rcases ah with h|h|h|h|h
 ·exact ZK o n bT ba b2 s w bL bj aA (.inl h)
 ·exact ZK o n bT ba b2 s w bL bj aA (.inr h)
 ·exact ZL o n bT ba b2 s w bL (by subst h;have:dY 33=1:=(by decide);omega) bj aA (.inl h)
 ·exact ZL o n bT ba b2 s w bL (by subst h;have:dY 34=1:=(by decide);omega) bj aA (.inr h)
 ·exact ahn o n bT ba b2 s w bL nZ bj h
theorem QO:(prog.info? 57).map (fun i=>(i.zero,i.size,i.bytes))=some (some (.agg #[(),()]),2,16):=by kernel_rfl
theorem Sh (x:cO):∀v∈jx x,v.oneCell'=true:=fun v ay=>by
 simp only[jx,List.mem_cons,List.not_mem_nil,or_false]at ay;rcases ay with rfl|rfl<;>rfl
theorem Sj {W:World} {x:cO} {t:TypeId}:∀j u,(jx x)[j]?=some u→(W.alloc (.cells #[x.k,x.e] t)).cell? ((⟨W.heap.size,0,none⟩:Addr).add j)=some u:=
 zK (l:=jx x)
theorem c3.Mc {w:World} {B:Nat} {e:TypeId} {v:Value} {xs:List cO} (h:c3 w B e jx 2 v xs):(v= .slice none 0 0∧xs=[])∨
  ∃g cap,v= .slice (some ⟨g,0,none⟩) xs.length cap∧xs.length≤cap∧cap≤maxLen∧B≤g∧g<w.heap.size∧∀(j:Nat) (x:cO),xs[j]?=some x→w.cell? ⟨g,j*2,none⟩=some (.int .i64 x.k)∧w.cell? ⟨g,j*2+1,none⟩=some (.int .i64 x.e):=by
 obtain⟨A,cap,ay,cx,fE⟩:=h.form;obtain⟨nE,oq,hv',af⟩:=h.yL My;rcases h.2 with⟨rfl,aA⟩|⟨g,ky,cur,rfl,aU,ai,au⟩
 ·exact .inl ⟨rfl,List.length_eq_zero_iff.1 aA⟩
 ·refine .inr ⟨g,ky,rfl,?_,?_,aU,(Array.getElem?_eq_some_iff.1 ai).1,fun j x aB=> ?_⟩
  ·simp only[Value.slice.injEq]at ay;omega
  ·simp only[Value.slice.injEq]at ay;omega
  ·have hp:0<xs.length:=by have:=(b8 aB).1;omega
   obtain⟨b,off,aK,J,ah⟩:=af hp;simp only[Value.slice.injEq]at hv';rw[aK]at hv';simp only[Option.some.injEq,Addr.mk.injEq]at hv';obtain⟨⟨rfl,rfl,-⟩,-,-⟩:=hv';have gY:=ah j x aB 0 _ rfl;have az:=ah j x aB 1 _ rfl;rw[Nat.zero_add]at gY az;exact⟨gY,az⟩
theorem aj2 (v:Value) (xs:List cz) (b2:Value) (s:jl) (w:World) (bM:kt w v xs) (bj:nO w b2 s):Calls prog 150 #[v,b2] w (Si (q1 s xs) w):=by
 obtain⟨bM,aq,o1⟩:=bM;have ep:=hid (fun w1 (h:Kept w w1)=>aaU v xs w1 (bM.kept h) (by omega));unfold R8 at ep;have Jr:=hid (fun o n bT ba w1 (h:Kept w w1) (bL:kb w1 bT ba) nZ aA=>ahm o n bT ba b2 s w1 bL nZ (bj.kept h) aA);unfold oJ at Jr;have mV:=hid (fun op w1=>DM op w1);have Dk:=hid (fun op w1=>abe op w1);obtain⟨cY,ce,cU,cW,dS,ci,gJ,b_,eH,hg,rfl,-⟩:=bj.form;obtain⟨A,cap,rfl,aK⟩:=bM.at_;obtain⟨n,fj⟩:∃n,n=xs.length:=⟨_,rfl⟩;rw[←fj]at aK aq ep⊢;have bn:=hid fj;obtain⟨R,aw⟩:∃R,R=q1 s xs:=⟨_,rfl⟩;rw[←aw];unfold q1 at aw;generalize s.ms.length=dN at*;generalize s.tb.length=dh at*;generalize s.ins.length=b1 at*;generalize s.ds.length=cS at*;generalize s.md.length=ew at*;have iD:=hid o1;obtain⟨i0,aE,fy,cb,eu⟩:=info_parts QO;have eB:=hid (fun h=>(aaS (e:=xs) h));obtain⟨sc,ih⟩:∃sc,(cF xs).2.2=sc:=⟨_,rfl⟩;obtain⟨am8,X8⟩:∃am8,(cF xs).2.1=am8:=⟨_,rfl⟩;rw[ih,X8]at ep;rw[ih]at aw;have Dg:=hid ih;have aI:=hid aw;clear ih X8 bj bM fj o1 aw;go_enter func150,ntmps150
 go_upto_region 1 with fail
 generalize ar:(w.alloc _).alloc _=W at*;obtain⟨aW,aS,aT⟩:=Kept.a6 ar;clear ar;go_upto_region 2 with (go_at_call 108;refine (ep.out _ aW).mono ?_;rintro e w1 ⟨u,rfl,-,ak⟩)
 have fc:=aS.kept ak;have cm:=aT.kept ak;have bB:=aW.trans ak;clear aS aT aW ak;by_cases aj:sc=0
 case neg=>
  have htn:(sc !=0)=true:=by simpa using aj
  obtain⟨aM,bx,f2⟩:=cm.q;have au:=hid (aI.out.trans (if_pos aj));clear aj eB fc;go_wp2_with fail
  obtain⟨cC,al⟩:=hi 0 0 cm bB (by omega);have cq:=cC.cell;exact bodyPost_ret (v:= .tuple #[.agg #[(),()],.int .i64 am8,.int .i64 sc]) (by simp[results,results150,go_sem,cq]) rfl (Mz _ au.out al)
 subst aj;obtain⟨hp,zU,w6⟩:=eB.out Dg.out;rw[←bn.out]at hp zU;have dd:=hid (show xt s (xs.drop 0) []=R from (aI.out.trans (if_neg (fun h=>h rfl))).symm);have tl:=hid fc;have q9:=hid cm;have iP:=hid bB;have Tp:=hid w6;clear fc cm bB w6 aI;go_wp2_with fail
 go_loopw [10,29] (fun z y wr=>∃(i:Nat) (ba:List cO),y= .int .i64 i∧i≤n∧xQ (xs.drop i) ba.length∧Kept w wr∧ao wr w.heap.size 202 #[.slice cY dN ce,.slice cU dh cW,.slice dS b1 ci,.slice gJ cS b_,.slice eH ew hg,.bool s.hm]∧ao wr (w.heap.size+1) 57 #[(),()]∧c3 wr (w.heap.size+2) 57 jx 2 z ba∧ba.length≤i∧xt s (xs.drop i) ba=R) (fun _ y _=>n-(intOf y).toNat)
 case atStart=>exact⟨0,[],rfl,Nat.zero_le _,Tp.out,iP.out,tl.out,q9.out,c3.nil _ _ _,Nat.le_refl _,dd.out⟩
 case round=>
  obtain⟨i,ba,rfl,de,w6,ab,lj,oU,da,sV,aG⟩:=hrel;clear tl q9 iP Tp dd;by_cases aD:i<n
  ·obtain⟨bY,jv,rfl,ea,fH⟩:=aK (by omega);have ai:xs[i]?=some (xs[i]'(by have:=bn.out;omega)):=a8 _;obtain⟨a,BX,hah,afa,rO⟩:=w6.at_ ai;obtain⟨m,kD⟩:∃m,ba.length=m+a:=⟨ba.length-a,by omega⟩;rw[ajM ai BX kD]at aG;obtain⟨bZ,b3⟩:=fH i _ ai;have lo:=iD.out _ (List.mem_of_getElem? ai);generalize xs[i]'(by have:=bn.out;omega)=X at*;obtain⟨op,N⟩:=X;dsimp only at bZ b3 BX lo aG;obtain⟨fb,e9,Fo,La⟩:∃fb e9 Fo,mL s op N (ba.drop m)=(⟨fb,e9⟩,Fo):=⟨_,_,_,rfl⟩;rw[La]at aG;have aeI:=hid (fun w1=>(by have:=mV.out op w1;rwa [BX]at this:Calls prog 138 #[op] w1 fun e w'=>e= .returned (.int .i64 (a:Int))∧w1=w'));have WH:=hid (Dk.out op);have lG:=hid (fun cM dQ aM w1 (h:Kept w w1) (bL:kb w1 (.slice cM dQ aM) (ba.drop m))=>(by
    have:=Jr.out op N (.slice cM dQ aM) (ba.drop m) w1 h bL (by rw[List.length_drop,BX];omega) lo.2;rwa [La]at this:Calls prog 170 #[.agg #[op,N],.slice cM dQ aM,.agg #[.slice cY dN ce,.slice cU dh cW,.slice dS b1 ci,.slice gJ cS b_,.slice eH ew hg,.bool s.hm]] w1 fun r w'=>r= .returned (.tuple #[.agg #[.int .i64 fb,.int .i64 e9],.int .i64 Fo])∧Kept w1 w'))
   have gd:=ab.ad ea bZ;have hO:=ab.ad ea b3;have c6:(i:Int)<n:=by omega
   have alq:=bd ea ab.size;have dd:=hid aG;have pS:=da.Mc;obtain⟨cM,co,ck,W7,aly⟩:=da.form;have alU:m≤11:=by omega
   have WO:a≤3:=by have:=(zI op).2;omega
   rw[show ba.length-a+1=m+1 by omega]at rO;rw[kD]at ck W7;subst ck;have Qc:m≤i:=by omega
   have rb:=hid rO;have dM:=hid da;have rh:=hid pS;have qf:=hid kD;have sn:=hid ab;have abA:=hid lj;have Tb:=hid oU;have hwp:IntKind.i64.wrap (m:Int)=m:=by rw[IntKind.wrap_i64];omega
   have Co:(m:Int)≤co:=by omega
   have lP:(m:Int)≤m+a:=by omega
   clear fH ai rO bZ b3 BX w6 lo mV Jr Dk eB ep aK ab da pS kD afa aG La lj oU;go_upto_region 8 with fail
   have bM:=ao.new wr 69 #[op,N];have oZ:=(aQ wr).alloc (.cells #[op,N] 69);have n2:(wr.alloc (.cells #[op,N] 69)).heap.size=wr.heap.size+1:=by simp
   generalize wr.alloc (.cells #[op,N] 69)=ct at*;have lj:=abA.out.kept oZ;have oU:=Tb.out.kept oZ;have du:=hid (sn.out.trans oZ);have Bg:=hid (dM.out.n3 oZ);have hgg:w.heap.size+1<wr.heap.size:=Tb.out.lt;have Jb:=hid (show∀g dQ aM,(Value.slice cM (m+a) co)= .slice (some ⟨g,0,none⟩) dQ aM→∀(j:Nat) (x:cO),ba[j]?=some x→ct.cell? ⟨g,j*2,none⟩=some (.int .i64 x.k)∧ct.cell? ⟨g,j*2+1,none⟩=some (.int .i64 x.e)from fun g dQ aM he j x aB=>by
    rcases Bg.out.Mc with⟨I,U⟩|⟨hR,ky,I,-,-,-,-,U⟩
    ·rw[U]at aB;cases aB
    ·rw[he]at I;simp only[Value.slice.injEq,Option.some.injEq,Addr.mk.injEq]at I;obtain⟨⟨rfl,-⟩,-⟩:=I;exact U j x aB)
   generalize wr.heap.size=g0 at*;have amc:g0<ct.heap.size:=by omega
   clear n2;obtain⟨hY,nl⟩:=bM.p;by_cases K4:N≠0∧yV op=false
   ·have au:=hid (dd.out.symm.trans (if_pos K4));obtain⟨Xi,Xj⟩:=K4;have yg:(N !=0)=true:=by simpa using Xi
    have PG:=hid (fun w1=>(by have:=WH.out w1;rwa [Xj]at this:Calls prog 158 #[op] w1 fun x w'=>x= .returned (.bool false)∧w1=w'));obtain⟨aM,bx,f2⟩:=oU.q;clear Xi Xj;go_wp2_with (go_at_call 158;refine (PG.out _).mono ?_;rintro e w' ⟨rfl,rfl⟩)
    obtain⟨cC,al⟩:=hi 0 0 oU du.out (by omega);have cq:=cC.cell;exact bodyPost_ret (v:= .tuple #[.agg #[(),()],i,.int .i64 2]) (by simp[results,results150,go_sem,cq]) rfl (Mz _ au.out al)
   replace dd:=hid ((if_neg K4).symm.trans dd.out);have pV:(N=0)∨(yV op=true):=by
    rcases Decidable.em (N=0)with h|h
    ·exact .inl h
    ·exact .inr (by cases hu:yV op;exact absurd ⟨h,hu⟩ K4;rfl)
   go_cut [42] (fun z bt=>z= .bool false∧ct=bt)
   case first=>
    rcases pV with ck|ck
    ·subst ck;go_wp2_with fail
     go_meet;exact⟨rfl,rfl⟩
    ·have PG:=hid (fun w1=>(by have:=WH.out w1;rwa [ck]at this:Calls prog 158 #[op] w1 fun x w'=>x= .returned (.bool true)∧w1=w'));by_cases yg:N=0
     ·subst yg;go_wp2_with fail
      go_meet;exact⟨rfl,rfl⟩
     ·have hNb:(N !=0)=true:=by simpa using yg
      go_wp2_with (go_at_call 158;refine (PG.out _).mono ?_;rintro e w' ⟨rfl,rfl⟩)
      go_meet;exact⟨rfl,rfl⟩
   case rest=>
    obtain⟨rfl,rfl⟩:=hcut;go_upto_region 11 with (go_at_call 138;refine (aeI.out _).mono ?_;rintro e w' ⟨rfl,rfl⟩)
    have ej:=hid (show∀X,Kept ct X→(Kept ct X∧X.cell? ⟨w.heap.size,0,none⟩=some (.slice cY dN ce)∧X.cell? ⟨w.heap.size,1,none⟩=some (.slice cU dh cW)∧X.cell? ⟨w.heap.size,2,none⟩=some (.slice dS b1 ci)∧X.cell? ⟨w.heap.size,3,none⟩=some (.slice gJ cS b_)∧X.cell? ⟨w.heap.size,4,none⟩=some (.slice eH ew hg)∧X.cell? ⟨w.heap.size,5,none⟩=some (.bool s.hm)∧X.cell? ⟨g0,0,none⟩=some (.int .i64 op)∧X.cell? ⟨g0,1,none⟩=some (.int .i64 N))from fun X h=>⟨h,(lj.kept h).cell 0,(lj.kept h).cell 1,(lj.kept h).cell 2,(lj.kept h).cell 3,(lj.kept h).cell 4,(lj.kept h).cell 5,(bM.kept h).cell 0,(bM.kept h).cell 1⟩);obtain⟨-,z0,e6,z2,z3,z4,z5,-,-⟩:=ej.out ct (aQ _);have tl:=hid lj;have q9:=hid oU;clear lj oU bM oZ;go_cut [14,15] (fun p c bt=>∃gt:Nat,p= .pointer (some ⟨gt,0,none⟩)∧c= .int .i64 Fo∧Kept ct bt∧ct.heap.size≤gt∧ao bt gt 57 #[.int .i64 fb,.int .i64 e9])
    case first=>
     rcases rh.out with⟨ck,bS⟩|⟨g,ky,ck,PT,PU,aU,qI,hx⟩
     ·simp only[Value.slice.injEq]at ck;obtain⟨rfl,HF,rfl⟩:=ck;obtain rfl:m=0:=by omega
      obtain rfl:a=0:=by omega
      have nK:=hid (fun X (_:Kept ct X)=>(⟨none,0,by rw[bS];rfl,fun h=>by rw[bS]at h;exact absurd h (by simp)⟩:kb X aR (ba.drop 0)));clear HF bS Co lP;go_region_held3 (fun X=>Kept ct X∧X.cell? ⟨w.heap.size,0,none⟩=some (.slice cY dN ce)∧X.cell? ⟨w.heap.size,1,none⟩=some (.slice cU dh cW)∧X.cell? ⟨w.heap.size,2,none⟩=some (.slice dS b1 ci)∧X.cell? ⟨w.heap.size,3,none⟩=some (.slice gJ cS b_)∧X.cell? ⟨w.heap.size,4,none⟩=some (.slice eH ew hg)∧X.cell? ⟨w.heap.size,5,none⟩=some (.bool s.hm)∧X.cell? ⟨g0,0,none⟩=some (.int .i64 op)∧X.cell? ⟨g0,1,none⟩=some (.int .i64 N))
       ((refine ej.out _ ?_;(with_reducible repeat (first|exact .refl _|assumption|refine .drew ?_|refine .alloc ?_ _|refine .setCell ?_ (by simp only;omega) _|refine .trans ?_ ‹Kept _ _›))))
       ((go_at_call 170;refine (lG.out none 0 0 _ ?_ ?_).mono ?_;(·refine Kept.trans du.out ?_;(with_reducible repeat (first|exact .refl _|assumption|refine .drew ?_|refine .alloc ?_ _|refine .setCell ?_ (by simp only;omega) _|refine .trans ?_ ‹Kept _ _›)));(·refine nK.out _ ?_;(with_reducible repeat (first|exact .refl _|assumption|refine .drew ?_|refine .alloc ?_ _|refine .setCell ?_ (by simp only;omega) _|refine .trans ?_ ‹Kept _ _›)));rintro e cf ⟨rfl,cQ⟩;have oe:Kept ct cf:=(by (with_reducible repeat (first|exact .refl _|assumption|refine .drew ?_|refine .alloc ?_ _|refine .setCell ?_ (by simp only;omega) _|refine .trans ?_ ‹Kept _ _›)));have oF:=oe.size;(try (have hn:=(ao.drew (ao.new _ 57 #[(),()])).kept cQ;have CB:=hn.cell;have CD:=hn.lt;have CC:=hn.frozen));(try (have hn:=(ao.new _ 57 #[(),()]).kept cQ;have CB:=hn.cell;have CD:=hn.lt;have CC:=hn.frozen))))
      all_goals
       rename_i hHeld;clear hHeld;go_wp2_with fail
       go_meet
       first
       |exact⟨cf.heap.size,rfl,rfl,oe.alloc _,oF,ao.new _ _ _⟩
       |exact⟨ct.heap.size,rfl,rfl,(oe.setCell (Nat.le_refl _) _).setCell (Nat.le_refl _) _,Nat.le_refl _,(hn.aP 0 (.int .i64 fb)).aP 1 (.int .i64 e9)⟩
     ·simp only[Value.slice.injEq]at ck;obtain⟨rfl,-,rfl⟩:=ck;have P4:g<ct.heap.size:=by omega
      have Ek:∀(j:Nat) (x:cO),ba[j]?=some x→ct.cell? ⟨g,j*2,none⟩=some (.int .i64 x.k)∧ct.cell? ⟨g,j*2+1,none⟩=some (.int .i64 x.e):=Jb.out _ _ _ rfl;by_cases Ac:m=co
      ·obtain rfl:a=0:=by omega
       subst Ac;have nK:=hid (fun X (_:Kept ct X)=>(⟨some ⟨g,0,none⟩,0,by rw[List.drop_eq_nil_of_le (by have:=qf.out;omega)];rfl,fun h=>by rw[List.drop_eq_nil_of_le (by have:=qf.out;omega)]at h;exact absurd h (by simp)⟩:kb X (.slice (some ⟨g,0,none⟩) 0 0) (ba.drop m)));clear hx Ek PT PU W7;go_region_held3 (fun X=>Kept ct X∧X.cell? ⟨w.heap.size,0,none⟩=some (.slice cY dN ce)∧X.cell? ⟨w.heap.size,1,none⟩=some (.slice cU dh cW)∧X.cell? ⟨w.heap.size,2,none⟩=some (.slice dS b1 ci)∧X.cell? ⟨w.heap.size,3,none⟩=some (.slice gJ cS b_)∧X.cell? ⟨w.heap.size,4,none⟩=some (.slice eH ew hg)∧X.cell? ⟨w.heap.size,5,none⟩=some (.bool s.hm)∧X.cell? ⟨g0,0,none⟩=some (.int .i64 op)∧X.cell? ⟨g0,1,none⟩=some (.int .i64 N))
        ((refine ej.out _ ?_;(with_reducible repeat (first|exact .refl _|assumption|refine .drew ?_|refine .alloc ?_ _|refine .setCell ?_ (by simp only;omega) _|refine .trans ?_ ‹Kept _ _›))))
        ((go_at_call 170;refine (lG.out (some ⟨g,0,none⟩) 0 0 _ ?_ ?_).mono ?_;(·refine Kept.trans du.out ?_;(with_reducible repeat (first|exact .refl _|assumption|refine .drew ?_|refine .alloc ?_ _|refine .setCell ?_ (by simp only;omega) _|refine .trans ?_ ‹Kept _ _›)));(·refine nK.out _ ?_;(with_reducible repeat (first|exact .refl _|assumption|refine .drew ?_|refine .alloc ?_ _|refine .setCell ?_ (by simp only;omega) _|refine .trans ?_ ‹Kept _ _›)));rintro e cf ⟨rfl,cQ⟩;have oe:Kept ct cf:=(by (with_reducible repeat (first|exact .refl _|assumption|refine .drew ?_|refine .alloc ?_ _|refine .setCell ?_ (by simp only;omega) _|refine .trans ?_ ‹Kept _ _›)));have oF:=oe.size;(try (have hn:=(ao.drew (ao.new _ 57 #[(),()])).kept cQ;have CB:=hn.cell;have CD:=hn.lt;have CC:=hn.frozen));(try (have hn:=(ao.new _ 57 #[(),()]).kept cQ;have CB:=hn.cell;have CD:=hn.lt;have CC:=hn.frozen))))
       all_goals
        rename_i hHeld;clear hHeld;go_wp2_with fail
        go_meet
        first
        |exact⟨cf.heap.size,rfl,rfl,oe.alloc _,oF,ao.new _ _ _⟩
        |exact⟨ct.heap.size,rfl,rfl,(oe.setCell (Nat.le_refl _) _).setCell (Nat.le_refl _) _,Nat.le_refl _,(hn.aP 0 (.int .i64 fb)).aP 1 (.int .i64 e9)⟩
      ·have nK:=hid (show∀X,Kept ct X→kb X (.slice (some ⟨g,m*2,none⟩) a (co-m)) (ba.drop m)from fun X h=>⟨some ⟨g,m*2,none⟩,co-m,by rw[List.length_drop,qf.out,Nat.add_sub_cancel_left],fun hp=>⟨g,m*2,rfl,bd P4 h.size,fun j x aB=>by
        rw[List.getElem?_drop]at aB;obtain⟨gY,az⟩:=Ek (m+j) _ aB;have Vm:=h.ad P4 gY;have qz:=h.ad P4 az;rw[Nat.add_mul]at Vm qz;intro q u au;match q,au with
        |0,au=>obtain rfl:=Option.some.inj au;exact Vm
        |1,au=>obtain rfl:=Option.some.inj au;exact qz⟩⟩)
       have alW:m<co:=by omega
       have sM:¬(co=m):=by omega
       clear hx Ek PT PU;go_region_held3 (fun X=>Kept ct X∧X.cell? ⟨w.heap.size,0,none⟩=some (.slice cY dN ce)∧X.cell? ⟨w.heap.size,1,none⟩=some (.slice cU dh cW)∧X.cell? ⟨w.heap.size,2,none⟩=some (.slice dS b1 ci)∧X.cell? ⟨w.heap.size,3,none⟩=some (.slice gJ cS b_)∧X.cell? ⟨w.heap.size,4,none⟩=some (.slice eH ew hg)∧X.cell? ⟨w.heap.size,5,none⟩=some (.bool s.hm)∧X.cell? ⟨g0,0,none⟩=some (.int .i64 op)∧X.cell? ⟨g0,1,none⟩=some (.int .i64 N))
        ((refine ej.out _ ?_;(with_reducible repeat (first|exact .refl _|assumption|refine .drew ?_|refine .alloc ?_ _|refine .setCell ?_ (by simp only;omega) _|refine .trans ?_ ‹Kept _ _›))))
        ((go_at_call 170;refine (lG.out (some ⟨g,m*2,none⟩) a (co-m) _ ?_ ?_).mono ?_;(·refine Kept.trans du.out ?_;(with_reducible repeat (first|exact .refl _|assumption|refine .drew ?_|refine .alloc ?_ _|refine .setCell ?_ (by simp only;omega) _|refine .trans ?_ ‹Kept _ _›)));(·refine nK.out _ ?_;(with_reducible repeat (first|exact .refl _|assumption|refine .drew ?_|refine .alloc ?_ _|refine .setCell ?_ (by simp only;omega) _|refine .trans ?_ ‹Kept _ _›)));rintro e cf ⟨rfl,cQ⟩;have oe:Kept ct cf:=(by (with_reducible repeat (first|exact .refl _|assumption|refine .drew ?_|refine .alloc ?_ _|refine .setCell ?_ (by simp only;omega) _|refine .trans ?_ ‹Kept _ _›)));have oF:=oe.size;(try (have hn:=(ao.drew (ao.new _ 57 #[(),()])).kept cQ;have CB:=hn.cell;have CD:=hn.lt;have CC:=hn.frozen));(try (have hn:=(ao.new _ 57 #[(),()]).kept cQ;have CB:=hn.cell;have CD:=hn.lt;have CC:=hn.frozen))))
       all_goals
        rename_i hHeld;clear hHeld;go_wp2_with fail
        go_meet
        first
        |exact⟨cf.heap.size,rfl,rfl,oe.alloc _,oF,ao.new _ _ _⟩
        |exact⟨ct.heap.size,rfl,rfl,(oe.setCell (Nat.le_refl _) _).setCell (Nat.le_refl _) _,Nat.le_refl _,(hn.aP 0 (.int .i64 fb)).aP 1 (.int .i64 e9)⟩
    case rest=>
     obtain⟨gt,rfl,rfl,o7,hgt,BT⟩:=hcut;have fc:=tl.out.kept o7;have cm:=q9.out.kept o7;have uT:=du.out.trans o7;clear z0 e6 z2 z3 z4 z5 ej hY nl;by_cases Qw:Fo=0
     ·subst Qw;replace dd:=hid ((if_neg (fun h=>h rfl)).symm.trans dd.out);obtain⟨kW,btl⟩:=BT.p;have ch:=(Bg.out.n3 o7).take My (show m≤m+a by omega);have Ca:(ba.take m).length=m:=by rw[List.length_take,qf.out];omega
      have ts:=hid Ca;have Bf:=hid (Sj (W:=wc.drew) (x:=⟨fb,e9⟩) (t:=57));have Bh:=hid (Sh ⟨fb,e9⟩);have tx:Hid ((wc.drew.alloc (.cells #[.int .i64 fb,.int .i64 e9] 57)).ownsRow (w.heap.size+2) 57 2 (.slice cM m co) m ((ba.take m).flatMap jx)):=hid (by
       have h:=c3.alloc (w:=wc.drew) ch (.cells #[.int .i64 fb,.int .i64 e9] 57);unfold c3 at h;rwa [Ca]at h)
      have P5:=uT.size;have hv:ct.heap.size≤wc.heap.size:=o7.size;have y':Hid (w.heap.size+2≤(wc.drew.alloc (.cells #[.int .i64 fb,.int .i64 e9] 57)).heap.size):=hid (by simp;omega);have o0:m+1≤maxLen:=by unfold maxLen;omega
      have jA:=hid ch;have Je:=hid uT;have S6:=hid fc;have S7:=hid cm;clear Ca ch uT fc cm o7 BT;go_upto_region 14 with fail
      go_region_law (first|(refine step_append_lies _ rfl (.tmp 67) (.tmp 69) 96 rfl (w.heap.size+2) 57 i0 (.agg #[(),()]) 2 16 underlying96 aE fy cb eu rfl (by decide) _ m ((ba.take m).flatMap jx) (by simp[Act.eval]) tx.out ⟨wc.drew.heap.size,0,none⟩ 1 1 (jx ⟨fb,e9⟩) (by simp[Act.eval]) rfl Bf.out Bh.out (by decide) o0 (by omega) y'.out _ rfl ?_;intro hR oq w2 hy cd _ _))
      all_goals
       have dT:(wc.drew.alloc (.cells #[.int .i64 fb,.int .i64 e9] 57)).grownBy w2 (Value.slice cM m co).ownBlock:=cd;clear cd;have sk:=hid dT;have abX:=hid hy;clear dT hy;go_wp2_with fail
       go_roundw
       case rel=>exact⟨i+1,ba.take m++[⟨fb,e9⟩],by go_num,aD,by rw[List.length_append,ts.out];exact rb.out,CI (Je.out.drewN 1) jA.out (by omega) sk.out,(LV (wr:=wc.drew) jA.out sk.out S6.out.lt (by omega)).trans S6.out,(LV (wr:=wc.drew) jA.out sk.out S7.out.lt (by omega)).trans S7.out,c3.snoc (by rw[ts.out];exact abX.out),by rw[List.length_append,ts.out];simp;omega,dd.out⟩
       case measure=>simp[intOf];omega
     ·have htn:(Fo !=0)=true:=by simpa using Qw
      have au:=hid (dd.out.symm.trans (if_pos Qw));obtain⟨aM,bx,f2⟩:=cm.q;clear BT fc;go_wp2_with fail
      obtain⟨cC,al⟩:=hi 0 0 cm uT (by omega);have cq:=cC.cell;exact bodyPost_ret (v:= .tuple #[.agg #[(),()],i,.int .i64 Fo]) (by simp[results,results150,go_sem,cq]) rfl (Mz _ au.out al)
  ·obtain rfl:n=i:=by omega
   have c6:¬((n:Int)<n):=by omega
   have I:=w6.end_ (by have:=bn.out;omega);have e4:ba[0]?=some (ba[0]'(by omega)):=a8 _;rcases da.Mc with⟨-,bS⟩|⟨g,ky,rfl,PT,PU,aU,qI,hx⟩
   ·subst bS;exact absurd I (by simp)
   obtain⟨gY,az⟩:=hx 0 _ e4;rw[List.drop_eq_nil_of_le (by have:=bn.out;omega),xt,e4,Option.getD_some]at aG;generalize ba[0]'(by omega)=T at*;obtain⟨fb,e9⟩:=T;dsimp only at gY az;rw[I];obtain⟨aM,bx,f2⟩:=oU.q;have hgs:w.heap.size+1<wr.heap.size:=oU.lt;rw[Nat.zero_mul]at gY az;have dd:=hid aG;clear hx e4 aK w6 lj da mV Jr eB ep aG;go_wp2_with fail
   obtain⟨cC,al⟩:=hi fb e9 oU ab (by omega);have cq:=cC.cell;exact bodyPost_ret (v:= .tuple #[.agg #[.int .i64 fb,.int .i64 e9],(),()]) (by simp[results,results150,go_sem,cq]) rfl (Mz _ dd.out.symm al)
theorem PM (v:Value) (xs:List mo) (s:ByteArray) (w:World) (c5:cH 2 n_ w v xs):Calls prog 61 #[v,s] w (gW (eS s (xs.map (·.ag))) w):=by
 have bI:=hid (fun w1 (h:Kept w w1) (bM:jC w1 w.heap.size 0 s)=>adV v xs w.heap.size 0 s w1 (c5.kept n_.kept h) bM);unfold gW at bI⊢;obtain⟨A,cap,rfl,-⟩:=c5;have aF:=hid ((aQ w).alloc (.cells #[s] 9));have bk:=hid (show jC (w.alloc (.cells #[s] 9)) w.heap.size 0 s from⟨(ao.new w _ _).lt,(ao.new w _ _).cell 0⟩);go_enter func61,ntmps61
 go_wp2_with (go_at_call 88;refine (bI.out _ aF.out bk.out).mono ?_;rintro e w1 ⟨rfl,ak⟩)
 go_ret;exact⟨rfl,aF.out.trans ak⟩
theorem WS (v:Value) (xs:List jm) (s:ByteArray) (w:World) (c5:cH 6 kU w v xs):Calls prog 62 #[v,s] w (gW (eS s (xs.map (·.ag))) w):=by
 have bI:=hid (fun w1 (h:Kept w w1) (bM:jC w1 w.heap.size 0 s)=>adZ v xs w.heap.size 0 s w1 (c5.kept kU.kept h) bM);unfold gW at bI⊢;obtain⟨A,cap,rfl,-⟩:=c5;have aF:=hid ((aQ w).alloc (.cells #[s] 9));have bk:=hid (show jC (w.alloc (.cells #[s] 9)) w.heap.size 0 s from⟨(ao.new w _ _).lt,(ao.new w _ _).cell 0⟩);go_enter func62,ntmps62
 go_wp2_with (go_at_call 90;refine (bI.out _ aF.out bk.out).mono ?_;rintro e w1 ⟨rfl,ak⟩)
 go_ret;exact⟨rfl,aF.out.trans ak⟩
def jo (q:Prop) (w:World) (e:Ending) (w':World):Prop:=∃c:Int,e= .returned c∧(c=0↔q)∧Kept w w'
theorem jo.mk {q:Prop} {w w':World} {c:Int} (h:c=0↔q) (aa:Kept w w'):jo q w (.returned c) w':=⟨c,rfl,h,aa⟩
theorem U8 (v:Value) (xs:List cz) (b2:Value) (s:jl) (fb e9:Int) (w:World) (bM:kt w v xs) (bj:nO w b2 s):Calls prog 124 #[v,b2,.agg #[fb,e9]] w (jo (q1 s xs=(⟨fb,e9⟩,0)) w):=by
 have ch:=hid (fun w1 (h:Kept w w1)=>aj2 v xs b2 s w1 (bM.kept h) (bj.kept h));unfold Si at ch;obtain⟨A,cap,rfl,-⟩:=bM.1.at_;obtain⟨cY,ce,cU,cW,dS,ci,gJ,b_,eH,hg,rfl,-⟩:=bj.form;generalize q1 s xs=R at*;obtain⟨⟨k,e⟩,c⟩:=R;generalize xs.length=n at*;generalize s.ms.length=dN at*;generalize s.tb.length=dh at*;generalize s.ins.length=b1 at*;generalize s.ds.length=cS at*;generalize s.md.length=ew at*;clear bM bj;go_enter func124,ntmps124
 go_upto_region 1 with fail
 generalize ar:(w.alloc _).alloc _=W at*;obtain⟨aW,aS,aT⟩:=Kept.a6 ar;clear ar;obtain⟨aC,a7⟩:=aS.p;go_upto_region 2 with (go_at_call 150;refine (ch.out _ aW).mono ?_;rintro az w1 ⟨i,rfl,ak⟩;have bB:=(aW.trans ak).alloc (.cells #[k,e] 57);have cm:=(aT.kept ak).alloc (.cells #[k,e] 57);have uM:=ao.new w1 57 #[k,e])
 generalize w1.alloc (.cells #[k,e] 57)=e8 at*;obtain⟨d2,m2⟩:=cm.p;obtain⟨d7,m7⟩:=uM.p;clear aC a7 aS aT;by_cases ah:c=0
 case neg=>
  have hh:(c !=0)=true:=by simpa using ah
  have au:=hid (show c=0↔((⟨k,e⟩,c):cO×Int)=(⟨fb,e9⟩,0)from⟨fun h=>absurd h ah,fun h=>absurd (Prod.mk.inj h).2 ah⟩);clear ah;go_wp2_with fail
  go_ret;exact jo.mk au.out bB
 subst ah;by_cases aa:k=fb
 case neg=>
  have P':(k==fb)=false:=by simpa using aa
  have au:=hid (show (8:Int)=0↔((⟨k,e⟩,0):cO×Int)=(⟨fb,e9⟩,0)from⟨fun h=>absurd h (by decide),fun h=>absurd (congrArg cO.k (Prod.mk.inj h).1) aa⟩);clear aa;go_wp2_with fail
  go_ret;exact jo.mk au.out bB
 by_cases he:e=e9
 case neg=>
  have PY:(e==e9)=false:=by simpa using he
  have au:=hid (show (8:Int)=0↔((⟨k,e⟩,0):cO×Int)=(⟨fb,e9⟩,0)from⟨fun h=>absurd h (by decide),fun h=>absurd (congrArg cO.e (Prod.mk.inj h).1) he⟩);clear he;subst aa;go_wp2_with fail
  go_ret;exact jo.mk au.out bB
 subst aa he;go_wp2_with fail
 go_ret;exact jo.mk (by simp) bB
theorem aj0 {w wr w1:World} {A:Option Addr} {n cap g1 aC:Nat} {out:List cO} {x:cO} (aA:out.length=n) (aa:Kept w wr) (da:c3 wr w.heap.size 57 jx 2 (.slice A n cap) out)
  (I:w1.ownsRow w.heap.size 57 2 (.slice (some ⟨g1,0,none⟩) (n+1) aC) (n+1) (out.flatMap jx++jx x)) (U:(wr.alloc (.cells #[x.k,x.e] 57)).grownBy w1 (Value.slice A n cap).ownBlock) (ae:(Value.slice A n cap).ownBlock=some g1∨g1=(wr.alloc (.cells #[x.k,x.e] 57)).heap.size):
  Kept w w1∧c3 w1 w.heap.size 57 jx 2 (.slice (some ⟨g1,0,none⟩) (n+1) aC) (out++[x]):=by
 subst aA;exact⟨(acA (n:=out.length+1) (cap:=aC) U ae).below aa (fun _ J=>(da.owned J).1),c3.snoc I⟩
theorem aj1 {w wr:World} {A:Option Addr} {n cap:Nat} {out:List cO} (x:cO) (aA:out.length=n) (da:c3 wr w.heap.size 57 jx 2 (.slice A n cap) out):
  (wr.alloc (.cells #[x.k,x.e] 57)).ownsRow w.heap.size 57 2 (.slice A n cap) n (out.flatMap jx):=by
 subst aA;exact c3.alloc da _
def jG (x:lE):cO:=⟨x.k,x.e⟩
def Pb (xs:List lE) (w:World) (e:Ending) (w':World):Prop:=∃v,e= .returned v∧c3 w' w.heap.size 57 jx 2 v (xs.map jG)∧Kept w w'
theorem O8 (v:Value) (xs:List lE) (w:World) (c5:cH 3 fL w v xs):Calls prog 120 #[v] w (Pb xs w):=by
 obtain⟨A,cap,rfl,-,aq,aK⟩:=c5;obtain⟨n,aA⟩:∃n,n=xs.length:=⟨_,rfl⟩;rw[←aA]at aq aK⊢;have bn:=hid aA;clear aA;obtain⟨i0,aE,fy,cb,eu⟩:=info_parts QO;go_enter func120,ntmps120
 go_wp2_with fail
 go_loopw [3,8] (fun z y wr=>∃(i:Nat),y= .int .i64 i∧i≤n∧Kept w wr∧c3 wr w.heap.size 57 jx 2 z ((xs.take i).map jG)) (fun _ y _=>n-(intOf y).toNat)
 case atStart=>exact⟨0,rfl,Nat.zero_le _,aQ _,c3.nil _ _ _⟩
 case round=>
  obtain⟨i,rfl,de,ab,cR⟩:=hrel;obtain⟨ang,co,rfl,cx,fE⟩:=cR.form;have nt:((xs.take i).map jG).length=i:=by rw[List.length_map,List.length_take];have:=bn.out;omega
  rw[nt]at cx cR⊢;have qi:=hid nt;have dM:=hid cR;have du:=hid ab;by_cases aD:i<n
  ·obtain⟨b,o,rfl,J,ah⟩:=aK (by omega);have ai:xs[i]?=some (xs[i]'(by have:=bn.out;omega)):=a8 _;obtain⟨⟨t0,-⟩,⟨t1,-⟩,⟨t2,-⟩⟩:=ah i _ ai;have ep:=hid (show (xs.take (i+1)).map jG=(xs.take i).map jG++[jG (xs[i]'(by have:=bn.out;omega))] by rw[List.take_succ_eq_append_getElem (by have:=bn.out;omega),List.map_append];rfl);generalize xs[i]'(by have:=bn.out;omega)=x at*;obtain⟨ag,k,e⟩:=x;unfold ed at t0 t1 t2;dsimp only at t0 t1 t2;have bZ:=ab.ad J t0;have b3:=ab.ad J t1;have cT:=ab.ad J t2;have c6:(i:Int)<n:=by omega
   have o0:i+1≤maxLen:=by unfold maxLen;omega
   have P5:=ab.size;clear ah aK t0 t1 t2 nt cR ai;have yf:=ab.alloc (.cells #[ag,k,e] 102);have Bg:=hid (c3.alloc dM.out (.cells #[ag,k,e] 102));have n9:=ao.new wr 102 #[ag,k,e];go_upto_region 5 with fail
   generalize wr.alloc (.cells #[ag,k,e] 102)=ct at*;obtain⟨cc,kV⟩:=n9.p;have iP:=hid yf;have alG:=yf.size;have tv:Hid (c3 ct w.heap.size 57 jx 2 (.slice ang i co) ((xs.take i).map jG)):=hid Bg.out;clear yf ab bZ b3 cT n9;go_wp2_with (at_builtin;go_loud (refine wpList_append_lies _ rfl (.tmp 12) (.tmp 15) 96 rfl w.heap.size 57 i0 (.agg #[(),()]) 2 16 underlying96 aE fy cb eu rfl (by decide) _ i (((xs.take i).map jG).flatMap jx) rfl (aj1 ⟨k,e⟩ qi.out tv.out) ⟨ct.heap.size,0,none⟩ 1 1 (jx ⟨k,e⟩) rfl rfl Sj (Sh _) (by decide) o0 (by omega) (by simp;omega) _ rfl ?_);intro g1 aC w1 I U ae aJ;obtain⟨ak,anm⟩:=aj0 qi.out iP.out tv.out I U ae)
   go_roundw
   case rel=>exact⟨i+1,by go_num,aD,ak,by rw[ep.out];exact anm⟩
   case measure=>simp[intOf];omega
  ·obtain rfl:n=i:=by omega
   have c6:¬((n:Int)<n):=by omega
   have ch:=hid (show (xs.take n).map jG=xs.map jG by rw[List.take_of_length_le (by have:=bn.out;omega)]);clear aK nt cR ab;go_wp2_with fail
   go_ret;exact⟨_,rfl,by rw[←ch.out];exact dM.out,du.out⟩
def ID (s:ByteArray):Bool:=decide (s.size≤64)&&((! decide (0≤Lib.indexByte s.data.toList 34))&&(L s).all fun c=>decide (32≤c.toNat∧c.toNat≤126))
theorem ai7 {s:ByteArray} {i:Nat} (h:i<s.size):((L s).drop i).all (fun c=>decide (32≤c.toNat∧c.toNat≤126))=(decide (32≤s[i].toNat∧s[i].toNat≤126)&&((L s).drop (i+1)).all fun c=>decide (32≤c.toNat∧c.toNat≤126)):=by
 have aq:i<(L s).length:=by rw[zv];exact h
 rw[List.drop_eq_getElem_cons aq,List.all_cons];rfl
theorem akk (s:ByteArray) (w:World) (ax:s.size≤140737488355328):Calls prog 123 #[s] w (gW (ID s) w):=by
 have bI:=hid (fun w1=>(Tryz.strings_Contains_one s 34 w1).mono fun _ _ h=>And.intro h.1 h.2.symm);unfold gW;obtain⟨R,aw⟩:∃R,R=ID s:=⟨_,rfl⟩;rw[←aw];unfold ID at aw;by_cases I:s.size≤64
 case neg=>
  have Pf:(64:Int)<s.size:=by omega
  have aI:=hid (show R=false by rw[aw,decide_eq_false I];rfl);clear aw I;go_enter func123,ntmps123
  go_wp2_with fail
  go_ret;exact⟨eD aI.out.symm,aQ _⟩
 have Pf:¬((64:Int)<s.size):=by omega
 rw[decide_eq_true I,Bool.true_and]at aw
 cases ah:decide (0≤Lib.indexByte s.data.toList 34)
 case true=>
  rw[ah]at aw bI;have aI:=hid aw;clear aw ah;go_enter func123,ntmps123
  go_wp2_with (go_at_call 149;refine (bI.out _).mono ?_;rintro e w1 ⟨rfl,rfl⟩)
  go_ret;exact⟨eD aI.out.symm,aQ _⟩
 rw[ah]at aw bI;have aI:=hid (show ((L s).drop 0).all (fun c=>decide (32≤c.toNat∧c.toNat≤126))=R from aw.symm);clear aw ah;go_enter func123,ntmps123
 go_wp2_with (go_at_call 149;refine (bI.out _).mono ?_;rintro e w1 ⟨rfl,rfl⟩)
 go_loopw [13] (fun z wr=>∃i:Nat,z= .int .i64 i∧i≤s.size∧Kept w wr∧((L s).drop i).all (fun c=>decide (32≤c.toNat∧c.toNat≤126))=R) (fun z _=>s.size-(intOf z).toNat)
 case atStart=>exact⟨0,rfl,Nat.zero_le _,aQ _,aI.out⟩
 case round=>
  obtain⟨i,rfl,de,ab,aG⟩:=hrel;by_cases aD:i<s.size
  ·rw[ai7 aD]at aG;have c6:(i:Int)<s.size:=by omega
   by_cases aZ:s[i].toNat<32
   ·have bz:=hid (show R=false by rw[←aG,decide_eq_false (by omega)];rfl);have hai:((s[i].toNat:Nat):Int)<32:=by omega
    clear aG;go_wp2_with fail
    go_ret;exact⟨eD bz.out.symm,ab⟩
   have hai:¬((s[i].toNat:Nat):Int)<32:=by omega
   by_cases J:126<s[i].toNat
   ·have bz:=hid (show R=false by rw[←aG,decide_eq_false (by omega)];rfl);have PN:(126:Int)<((s[i].toNat:Nat):Int):=by omega
    clear aG;go_wp2_with fail
    go_ret;exact⟨eD bz.out.symm,ab⟩
   have PN:¬(126:Int)<((s[i].toNat:Nat):Int):=by omega
   rw[decide_eq_true (by omega),Bool.true_and]at aG;have bz:=hid aG;clear aG;go_wp2_with fail
   go_roundw
   case rel=>exact⟨i+1,by go_num,aD,ab,bz.out⟩
   case measure=>simp[intOf];omega
  ·have aE:i=s.size:=by omega
   have c6:¬((i:Int)<s.size):=by omega
   rw[List.drop_eq_nil_of_le (by rw[zv];omega)]at aG;have bz:=hid aG;clear aG aE;go_wp2_with fail
   go_ret;exact⟨eD bz.out,ab⟩
def po (ms:List (List ByteArray)) (f:lE) (a b:List lE):Prop:=lr (L f.ag)=true∧f.ag∉a.map (·.ag)∧f.ag∉b.map (·.ag)∧kn f.k f.e ms=true
theorem U7 (c_ b4 b2 c0 bv:Value) (ms:List (List ByteArray)) (f:lE) (a b:List lE) (dh cW aaa hP:Nat) (cU jU:Option Addr) (Qy:b4= .slice cU dh cW) (hsv:b2= .slice jU aaa hP) (w:World) (aX:Enums w c_ ms) (aK:cH 3 fL w c0 a) (aU:cH 3 fL w bv b) (ax:f.ag.size≤140737488355328):
  Calls prog 94 #[.agg #[c_,b4,b2],.agg #[f.ag,f.k,f.e],c0,bv] w (jo (po ms f a b) w):=by
 have dW:=hid (fun w1 (h:Kept w w1) (bM:jC w1 (w.heap.size+1) 0 f.ag)=>Vd c0 a (w.heap.size+1) 0 f.ag w1 (aK.kept fL.kept h) bM);have cg:=hid (fun w1 (h:Kept w w1) (bM:jC w1 (w.heap.size+1) 0 f.ag)=>Vd bv b (w.heap.size+1) 0 f.ag w1 (aU.kept fL.kept h) bM);have eU:=hid (fun w1 (h:Kept w w1)=>IM f.k f.e c_ ms w1 (aX.kept h));have dn:=hid (fun w1=>HX f.ag ax w1);unfold gW at dW cg;subst Qy hsv;obtain⟨SL,gZ,rfl,-⟩:=aX;obtain⟨MN,ac,rfl,-⟩:=aK;obtain⟨MW,ku,rfl,-⟩:=aU;obtain⟨Q,cJ⟩:∃Q,Q=po ms f a b:=⟨_,rfl⟩;rw[←cJ];unfold po at cJ;rw[←E7,←E7]at cJ;obtain⟨ag,k,e⟩:=f;dsimp only at*;generalize lr (L ag)=aO at*;generalize eS ag (a.map (·.ag))=aN at*;generalize eS ag (b.map (·.ag))=cK at*;generalize kn k e ms=dA at*;generalize ms.length=dN at*;generalize a.length=aoD at*;generalize b.length=nb at*;have bz:=hid cJ;clear cJ;go_enter func94,ntmps94
 go_upto_region 1 with fail
 generalize ar:(w.alloc _).alloc _=W at*;obtain⟨aW,aS,aT⟩:=Kept.a6 ar;clear ar;obtain⟨aC,a7⟩:=aS.p;obtain⟨aM,bx⟩:=aT.p;have bk:=hid (fun w1 (h:Kept W w1)=>jC.kept (s:=ag) (g:=w.heap.size+1) (o:=0) ⟨aT.lt,aT.cell 0⟩ h);have dD:=hid (fun w1 (h:Kept W w1)=>aS.kept h);have dr:=hid (fun w1 (h:Kept W w1)=>aT.kept h);clear aS aT
 cases aO
 ·have au:=hid (show (2:Int)=0↔Q by rw[bz.out];simp);go_wp2_with (go_at_call 60;refine (dn.out _).mono ?_;rintro az w1 ⟨rfl,rfl⟩)
  go_ret;exact jo.mk au.out aW
 go_upto_region 4 with (go_at_call 60;refine (dn.out _).mono ?_;rintro az w1 ⟨rfl,rfl⟩)
 cases aN
 case true=>
  have au:=hid (show (7:Int)=0↔Q by rw[bz.out];simp);go_wp2_with (go_at_call 119;refine (dW.out _ aW (bk.out _ (aQ _))).mono ?_;rintro az w1 ⟨rfl,ak⟩)
  go_ret;exact jo.mk au.out (aW.trans ak)
 cases cK
 case true=>
  have au:=hid (show (7:Int)=0↔Q by rw[bz.out];simp);go_wp2_with (go_at_call 119;first|(refine (dW.out _ aW (bk.out _ (aQ _))).mono ?_;rintro az w1 ⟨rfl,ak⟩)|(refine (cg.out _ (aW.trans ak) (bk.out _ ak)).mono ?_;rintro az w2 ⟨rfl,a'⟩))
  go_ret;exact jo.mk au.out ((aW.trans ak).trans a')
 go_upto_region 6 with (go_at_call 119;first|(refine (dW.out _ aW (bk.out _ (aQ _))).mono ?_;rintro az w1 ⟨rfl,ak⟩)|(refine (cg.out _ (aW.trans ak) (bk.out _ ak)).mono ?_;rintro az w2 ⟨rfl,a'⟩))
 have bR:=(aW.trans ak).trans a';have d1:=(dD.out _ (ak.trans a')).cell;have m1:=(dD.out _ (ak.trans a')).lt;have d2:=(dr.out _ (ak.trans a')).cell;have m2:=(dr.out _ (ak.trans a')).lt;clear aC a7 aM bx
 cases dA
 ·have au:=hid (show (8:Int)=0↔Q by rw[bz.out];simp);go_wp2_with (go_at_call 80;refine (eU.out _ bR).mono ?_;rintro az cw ⟨rfl,bw⟩)
  go_ret;exact jo.mk au.out (bR.trans bw)
 ·go_wp2_with (go_at_call 80;refine (eU.out _ bR).mono ?_;rintro az cw ⟨rfl,bw⟩)
  go_ret;exact jo.mk (by rw[bz.out];simp) (bR.trans bw)
end Go.Proofs.YtobpgndkciofhaaGreatDoor
