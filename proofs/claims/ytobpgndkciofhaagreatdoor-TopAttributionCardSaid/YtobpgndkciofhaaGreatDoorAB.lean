import Derived.Test.YtobpgndkciofhaaGreatDoorX
set_option linter.all false
namespace Go.Proofs.YtobpgndkciofhaaGreatDoor
open Go.RowKit Go.Proofs.Tryz
open Go.Lib (hid)
set_option maxRecDepth 100000
set_option maxHeartbeats 8000000
def xq (L:cZ) (s:bP):jl:=⟨L.ms,L.tb,s.ins.map jG,s.ds.map jG,if 0≤s.ms∧s.ms<L.sc.length then (b0 L s).ds.map jG else [],decide (0≤s.ms∧s.ms<L.sc.length)⟩
def R1 (s:jl) (w:World) (e:Ending) (w':World):Prop:=∃v,e= .returned v∧nO w' v s∧Kept w w'
def ho (w:World) (ei g:Nat) (A:Option Addr) (n c:Nat) (ba:List cO):Prop:=kb w (.slice A n c) ba∧n=ba.length∧(0<n→∀b off,A=some ⟨b,off,none⟩→ei≤b∧b≠g∧b<w.heap.size)
theorem ho.kept {w w':World} {ei g:Nat} {A:Option Addr} {n c:Nat} {ba:List cO} (h:ho w ei g A n c ba) (aa:Kept w w'):ho w' ei g A n c ba:=⟨h.1.kept aa,h.2.1,fun hp b off aK=>by obtain⟨I,U,ae⟩:=h.2.2 hp b off aK;exact⟨I,U,bd ae aa.size⟩⟩
theorem ho.jb {w:World} {ei g p i:Nat} {A:Option Addr} {n c:Nat} {ba:List cO} (h:ho w ei g A n c ba) (hpg:p=g∨p<ei) (u:Value):ho (w.setCell ⟨p,i,none⟩ u) ei g A n c ba:=by
 obtain⟨⟨nE,gf,ay,af⟩,aA,bQ⟩:=h;have QD:=ay;simp only[Value.slice.injEq]at ay;obtain⟨rfl,-,rfl⟩:=ay;refine⟨⟨A,c,QD,fun hp=> ?_⟩,aA,fun hp b off aK=>by have:=bQ hp b off aK;simpa using this⟩;obtain⟨b,off,aK,J,ah⟩:=af hp;refine⟨b,off,aK,by simpa using J,fun j x aB q v au=> ?_⟩;have hbp:b≠p:=by
  obtain⟨I,U,-⟩:=bQ (by rw[aA];exact hp) b off aK;rcases hpg with h|h<;>omega
 rw[World.cell?_of_block (a:=⟨b,_,none⟩) (Below.heap_setCell _ _ _ _ hbp)];exact ah j x aB q v au
theorem ho.ja {w:World} {ei g i:Nat} {A:Option Addr} {n c:Nat} {ba:List cO} (h:ho w ei g A n c ba) (u:Value):ho (w.setCell ⟨g,i,none⟩ u) ei g A n c ba:=h.jb (.inl rfl) u
theorem CR {w:World} {B ei g n c:Nat} {A:Option Addr} {ba:List cO} (h:c3 w B 57 jx 2 (.slice A n c) ba) (aq:ei≤B) (ai:g<B∨w.heap.size≤g) (aA:ba.length=n):ho w ei g A n c ba:=by
 have aH:=h.yL My;rcases h.Mc with⟨he,bS⟩|⟨hR,gf,he,-,-,aU,aD,-⟩
 ·simp only[Value.slice.injEq]at he;obtain⟨rfl,rfl,rfl⟩:=he;exact⟨aH,aA.symm,fun hp=>absurd hp (by omega)⟩
 ·simp only[Value.slice.injEq]at he;obtain⟨rfl,-,rfl⟩:=he;refine⟨aH,aA.symm,fun _ b off aK=> ?_⟩;simp only[Option.some.injEq,Addr.mk.injEq]at aK;omega
theorem Pa {w:World} {B:Nat} {v:Value} {ba:List cO} (h:c3 w B 57 jx 2 v ba):∃A c,v= .slice A ba.length c:=by
 obtain⟨A,c,ay,-⟩:=h.form;exact⟨A,c,ay⟩
theorem aiY (bT:Value) (l:cZ) (q:Nat) (s:bP) (w:World) (bL:gy w bT l) (au:l.sc[q]?=some s):Calls prog 95 #[bT,q] w (R1 (xq l s) w):=by
 obtain⟨c_,b4,b2,rfl,aj,I,U⟩:=bL;have cv:=hid (fun w1 (h:Kept w w1)=>(Kw aj).kept h);have ch:=hid (fun w1 (h:Kept w w1)=>I.kept kU.kept h);obtain⟨cY,fw,rfl,-⟩:=id aj;obtain⟨cU,cW,rfl,-⟩:=id I;obtain⟨jU,hP,rfl,-,lR,pY⟩:=id U;have Ck:=(b8 au).1;obtain⟨b,off,rfl,J,ah⟩:=pY (by omega);obtain⟨⟨t0,-⟩,⟨t1,bY⟩,⟨_,t2,bC⟩,⟨_,t3,b'⟩,⟨_,t4,iU⟩⟩:=ah q _ au;have Nd:=hid (fun w1 (h:Kept w w1)=>O8 _ s.ins w1 (bC.kept fL.kept h));have Nc:=hid (fun w1 (h:Kept w w1)=>O8 _ s.ds w1 (b'.kept fL.kept h));unfold Pb at Nd Nc;obtain⟨dS,gP,rfl,-⟩:=id bC;obtain⟨gJ,x8,rfl,-⟩:=id b';obtain⟨jy,ni,rfl,-⟩:=id iU;have qf:Hid (l.ms.length=l.bm.length):=hid (List.length_map _);obtain⟨xW,PE⟩:∃xW,xW=xq l s:=⟨_,rfl⟩;rw[←PE];have tB:=hid PE;unfold ed at t0 t1 t2 t3 t4;have rR:(q:Int)<l.sc.length:=by omega
 have bI:=hid ah;have dn:=hid (rfl:s.ins.length=s.ins.length);generalize kf:s.ag=ag at*;generalize lP:s.ms=gv at*;generalize HH:s.ins.length=b1 at*;generalize yo:s.ds.length=cS at*;generalize s.rs.length=c' at*;generalize HI:l.sc.length=aaa at*;generalize Eu:l.bm.length=dN at*;generalize HJ:l.tb.length=dh at*;have wm:=hid HH;have iE:=hid yo;have kQ:=hid lP;clear aj I U bC b' iU pY ah PE HH yo Eu HJ kf lP dn;go_enter func95,ntmps95
 go_upto_region 1 with fail
 generalize ar:(w.alloc _).alloc _=W at*;obtain⟨aW,aS,aT⟩:=Kept.a6 ar;clear ar;obtain⟨aC,a7⟩:=aS.p;have e3:=aW.ad J t0;have ee:=aW.ad J t1;have fW:=aW.ad J t2;have mS:=aW.ad J t3;have td:=aW.ad J t4;have fO:=bd J aW.size;go_upto_region 2 with fail
 generalize ar:W.alloc _=V at*;obtain⟨fq,bU⟩:=Kept.az ar;clear ar;have fc:=aS.kept fq;have cm:=aT.kept fq;have fe:=aW.trans fq;have hg5:w.heap.size+1<W.heap.size:=aT.lt;clear aC a7 e3 ee fW mS td aS aT aW;clear fq;generalize W.heap.size=g5 at*;have gM:=hid fe;have tl:=hid fc;have q9:=hid cm;have S8:=hid bU;have hgV:=bU.lt;go_cut [6] (fun t bt=>∃(g:Nat) (cl cM:Option Addr) (d1 d2:Nat),t= .pointer (some ⟨g,0,none⟩)∧Kept V bt∧V.heap.size≤g∧ao bt g 202 #[.slice cY dN fw,.slice cU dh cW,.slice cl b1 d1,.slice cM cS d2,aR,.bool false]∧ho bt V.heap.size g cl b1 d1 (s.ins.map jG)∧ho bt V.heap.size g cM cS d2 (s.ds.map jG))
 case first=>
  have ej:=hid (show∀X,Kept V X→(Kept V X∧X.cell? ⟨w.heap.size,0,none⟩=some (.slice cY dN fw)∧X.cell? ⟨w.heap.size,1,none⟩=some (.slice cU dh cW)∧X.cell? ⟨g5,2,none⟩=some (.slice dS b1 gP)∧X.cell? ⟨g5,3,none⟩=some (.slice gJ cS x8))from fun X h=>⟨h,(fc.kept h).cell 0,(fc.kept h).cell 1,(bU.kept h).cell 2,(bU.kept h).cell 3⟩);obtain⟨-,z0,e6,z2,z3⟩:=ej.out V (aQ _);clear fc cm bU fe;go_region_held3 (fun X=>Kept V X∧X.cell? ⟨w.heap.size,0,none⟩=some (.slice cY dN fw)∧X.cell? ⟨w.heap.size,1,none⟩=some (.slice cU dh cW)∧X.cell? ⟨g5,2,none⟩=some (.slice dS b1 gP)∧X.cell? ⟨g5,3,none⟩=some (.slice gJ cS x8))
   ((refine ej.out _ ?_;(with_reducible repeat (first|exact .refl _|assumption|refine .drew ?_|refine .alloc ?_ _|refine .setCell ?_ (by simp only;omega) _|refine .trans ?_ ‹Kept _ _›))))
   ((first
    |(go_at_call_of 120 (Value.slice dS b1 gP);refine (Nd.out _ (gM.out.trans ?_)).mono ?_;(·(with_reducible repeat (first|exact .refl _|assumption|refine .drew ?_|refine .alloc ?_ _|refine .setCell ?_ (by simp only;omega) _|refine .trans ?_ ‹Kept _ _›)));rintro e eA ⟨v1,rfl,cb,cG⟩;have F6:=hid cb;obtain⟨cl,d1,sW⟩:=Pa cb;rw[List.length_map,wm.out]at sW;subst sW;clear cb;have T4:Kept V eA:=(by (with_reducible repeat (first|exact .refl _|assumption|refine .drew ?_|refine .alloc ?_ _|refine .setCell ?_ (by simp only;omega) _|refine .trans ?_ ‹Kept _ _›)));have RX:=T4.size;(try (have Gc:=(ao.drew (ao.new _ 202 #[aR,aR,aR,aR,aR,.bool false])).kept cG;have m4c:=Gc.cell;have m4l:=Gc.lt;have m4f:=Gc.frozen)))
    |(go_at_call_of 120 (Value.slice gJ cS x8);refine (Nc.out _ (gM.out.trans ?_)).mono ?_;(·(with_reducible repeat (first|exact .refl _|assumption|refine .drew ?_|refine .alloc ?_ _|refine .setCell ?_ (by simp only;omega) _|refine .trans ?_ ‹Kept _ _›)));rintro e cf ⟨v2,rfl,eu,cQ⟩;have NQ:=hid eu;obtain⟨cM,d2,rT⟩:=Pa eu;rw[List.length_map,iE.out]at rT;subst rT;clear eu;have oe:Kept V cf:=(by (with_reducible repeat (first|exact .refl _|assumption|refine .drew ?_|refine .alloc ?_ _|refine .setCell ?_ (by simp only;omega) _|refine .trans ?_ ‹Kept _ _›)));have oF:=oe.size;(try (have hn:=(ao.new _ 202 #[aR,aR,aR,aR,aR,.bool false]).kept cQ;have CB:=hn.cell;have CD:=hn.lt;have CC:=hn.frozen));(try (have hn:=Gc.kept cQ;have CB:=hn.cell;have CD:=hn.lt;have CC:=hn.frozen)))))
  ·rename_i hHeld;clear hHeld;go_wp2_with fail
   go_meet;refine⟨cf.heap.size,cl,cM,d1,d2,rfl,oe.alloc _,oF,ao.new _ _ _,?_,?_⟩
   ·exact (CR (c3.n3 F6.out cQ) (by first|omega|(simp<;>omega)) (.inr (Nat.le_refl _)) (by rw[List.length_map,wm.out])).kept ((aQ _).alloc _)
   ·exact (CR NQ.out (by first|omega|(simp<;>omega)) (.inr (Nat.le_refl _)) (by rw[List.length_map,iE.out])).kept ((aQ _).alloc _)
  ·rename_i hHeld;clear hHeld;go_wp2_with fail
   go_meet;refine⟨eA.heap.size,cl,cM,d1,d2,rfl,?_,RX,?_,?_,?_⟩
   ·repeat refine Kept.setCell ?_ (by simp only;omega) _
    exact oe
   ·have:=(((((hn.aP 0 (.slice cY dN fw)).aP 1 (.slice cU dh cW)).aP 2 (.slice cl b1 d1)).aP 3 (.slice cM cS d2)).aP 4 aR).aP 5 (.bool false);simpa using this
   ·refine ho.ja (ho.ja (ho.ja (ho.ja (ho.ja (ho.ja ?_ _) _) _) _) _) _;exact (CR F6.out (by first|omega|(simp<;>omega)) (.inr (Nat.le_refl _)) (by rw[List.length_map,wm.out])).kept (Kept.trans ((aQ eA).alloc _) cQ)
   ·refine ho.ja (ho.ja (ho.ja (ho.ja (ho.ja (ho.ja ?_ _) _) _) _) _) _;exact CR NQ.out (by first|omega|(simp<;>omega)) (.inl (by simp)) (by rw[List.length_map,iE.out])
  ·rename_i hHeld;clear hHeld;have nu:V.heap.size<eA.heap.size:=Gc.lt;go_wp2_with fail
   go_meet;refine⟨V.heap.size,cl,cM,d1,d2,rfl,?_,Nat.le_refl _,?_,?_,?_⟩
   ·repeat refine Kept.setCell ?_ (by simp only;omega) _
    exact oe
   ·have:=(((((hn.aP 0 (.slice cY dN fw)).aP 1 (.slice cU dh cW)).aP 2 (.slice cl b1 d1)).aP 3 (.slice cM cS d2)).aP 4 aR).aP 5 (.bool false);simpa using this
   ·refine ho.ja (ho.ja (ho.ja (ho.ja (ho.ja (ho.ja ?_ _) _) _) _) _) _;exact (CR F6.out (by first|omega|(simp<;>omega)) (.inl (by simp)) (by rw[List.length_map,wm.out])).kept cQ
   ·refine ho.ja (ho.ja (ho.ja (ho.ja (ho.ja (ho.ja ?_ _) _) _) _) _) _;exact CR NQ.out (by first|omega|(simp<;>omega)) (.inl nu) (by rw[List.length_map,iE.out])
 case rest=>
  obtain⟨g,cl,cM,d1,d2,rfl,o7,alD,MZ,nP,mw⟩:=hcut;generalize wc=X at*;have cr:=tl.out.kept o7;have fu:=S8.out.kept o7;have dc:=gM.out.trans o7;have hVX:=o7.size;obtain⟨az,m1⟩:=cr.p;obtain⟨b7,m3⟩:=fu.p;obtain⟨aow,anR⟩:=MZ.p;have I5:=hid MZ;have F2:=hid nP;have jA:=hid mw;have q_:=hid (q9.out.kept o7);clear MZ nP mw cr fu tl q9 S8 o7 Nd Nc;have u_:∀(Y:World) (v4:Value) (kV:Bool) (ba:List cO),xW.md=ba→xW.hm=kV→Kept w Y→ho Y V.heap.size g cl b1 d1 (s.ins.map jG)→ho Y V.heap.size g cM cS d2 (s.ds.map jG)→kb Y v4 ba→R1 xW w (.returned (.agg #[.slice cY dN fw,.slice cU dh cW,.slice cl b1 d1,.slice cM cS d2,v4,.bool kV])) Y:=fun Y v4 kV ba I U aa t1 t2 t4=>by
   subst I U;refine⟨_,rfl,⟨_,_,_,_,_,rfl,?_,?_,?_,?_,t4⟩,aa⟩
   ·rw[tB.out];exact cv.out Y aa
   ·rw[tB.out];exact ch.out Y aa
   ·rw[tB.out];exact t1.1
   ·rw[tB.out];exact t2.1
  have FY:=hid u_;clear u_;have jr:w.heap.size+1<V.heap.size:=by omega
  by_cases Ac:0≤gv∧gv<aaa
  case neg=>
   have tu:Hid (xW.md=[]∧xW.hm=false):=hid (by
    rw[tB.out];unfold xq;rw[kQ.out,HI];exact⟨if_neg Ac,decide_eq_false Ac⟩)
   have VC:=q_.out.cell;have aoC:=q_.out.lt;have aoA:=q_.out.frozen;have IW:=(((((q_.out.aP 0 (.slice cY dN fw)).aP 1 (.slice cU dh cW)).aP 2 (.slice cl b1 d1)).aP 3 (.slice cM cS d2)).aP 4 aR).aP 5 (.bool false);have jB:Kept w ((((((X.setCell ⟨w.heap.size+1,0,none⟩ (.slice cY dN fw)).setCell ⟨w.heap.size+1,1,none⟩ (.slice cU dh cW)).setCell ⟨w.heap.size+1,2,none⟩ (.slice cl b1 d1)).setCell ⟨w.heap.size+1,3,none⟩ (.slice cM cS d2)).setCell ⟨w.heap.size+1,4,none⟩ aR).setCell ⟨w.heap.size+1,5,none⟩ (.bool false)):=by
    repeat refine Kept.setCell ?_ (by simp only;omega) _
    exact dc
   have Ue:=(((((F2.out.jb (i:=0) (.inr jr) (.slice cY dN fw)).jb (i:=1) (.inr jr) (.slice cU dh cW)).jb (i:=2) (.inr jr) (.slice cl b1 d1)).jb (i:=3) (.inr jr) (.slice cM cS d2)).jb (i:=4) (.inr jr) aR).jb (i:=5) (.inr jr) (.bool false);have Uf:=(((((jA.out.jb (i:=0) (.inr jr) (.slice cY dN fw)).jb (i:=1) (.inr jr) (.slice cU dh cW)).jb (i:=2) (.inr jr) (.slice cl b1 d1)).jb (i:=3) (.inr jr) (.slice cM cS d2)).jb (i:=4) (.inr jr) aR).jb (i:=5) (.inr jr) (.bool false);have cu:=IW.cell;have bq:=hid (FY.out _ aR false [] tu.out.1 tu.out.2 jB Ue Uf (gV.nil _ _ _));have A4:=hid cu;clear IW jB Ue Uf cu;rcases Decidable.em (gv<0)with aj|aj
   case' inr=>have I:(aaa:Int)≤gv:=by omega
   all_goals
    go_wp2_with fail
    have cu:=A4.out;exact bodyPost_ret (v:= .agg #[.slice cY dN fw,.slice cU dh cW,.slice cl b1 d1,.slice cM cS d2,aR,.bool false]) (by simp[results,results95,go_sem,cu]) rfl bq.out
  obtain⟨k,aa⟩:∃k:Nat,gv=k:=⟨gv.toNat,by omega⟩;have j8:k<l.sc.length:=by omega
  have El:l.sc[k]?=some l.sc[k]:=a8 j8;have tu:Hid (xW.md=(l.sc[k]).ds.map jG∧xW.hm=true):=hid (by
   rw[tB.out];unfold xq;rw[kQ.out,HI];refine⟨?_,decide_eq_true Ac⟩;dsimp only;rw[if_pos Ac];unfold b0;rw[kQ.out,if_pos Ac.1,aa,Int.toNat_natCast,El,Option.getD_some])
  obtain⟨-,-,-,⟨_,f3,Ws⟩,-⟩:=bI.out k _ El;unfold ed at f3;have Tj:=hid (fun w1 (h:Kept w w1)=>O8 _ (l.sc[k]).ds w1 (Ws.kept fL.kept h));unfold Pb at Tj;obtain⟨eH,kY,rfl,-⟩:=Ws;generalize (l.sc[k]).ds=Ra at*;generalize Ra.length=ew at*;replace f3:=dc.ad J f3;have KU:=bd J dc.size;have jI:(k:Int)<aaa:=by omega
  have e2:w.heap.size+1≠g:=by omega
  subst aa;have jX:=hid anR;clear El Ac fO t0 t1 t2 t3 t4;go_upto_region 5 with (go_at_call 120;refine (Tj.out _ dc).mono ?_;rintro e dV ⟨v3,rfl,o6,eW⟩;have HZ3:=hid o6;obtain⟨cX,d3,rfl⟩:=Pa o6;generalize rN:(Ra.map jG).length=iC at*;have uR:=hid rN;clear o6 rN;have ee:=(I5.out.kept eW).cell;have fW:=(I5.out.kept eW).lt;have mS:=(I5.out.kept eW).frozen)
  have su:=dc.trans eW;have nP:=hid (((((((((F2.out.kept eW).ja (i:=4) (.slice cX iC d3)).ja (i:=5) (.bool true)).jb (i:=0) (.inr jr) (.slice cY dN fw)).jb (i:=1) (.inr jr) (.slice cU dh cW)).jb (i:=2) (.inr jr) (.slice cl b1 d1)).jb (i:=3) (.inr jr) (.slice cM cS d2)).jb (i:=4) (.inr jr) (.slice cX iC d3)).jb (i:=5) (.inr jr) (.bool true));have mw:=hid (((((((((jA.out.kept eW).ja (i:=4) (.slice cX iC d3)).ja (i:=5) (.bool true)).jb (i:=0) (.inr jr) (.slice cY dN fw)).jb (i:=1) (.inr jr) (.slice cU dh cW)).jb (i:=2) (.inr jr) (.slice cl b1 d1)).jb (i:=3) (.inr jr) (.slice cM cS d2)).jb (i:=4) (.inr jr) (.slice cX iC d3)).jb (i:=5) (.inr jr) (.bool true));have oj:=hid (((((((((CR HZ3.out hVX (.inl jX.out) uR.out).ja (i:=4) (.slice cX iC d3)).ja (i:=5) (.bool true)).jb (i:=0) (.inr jr) (.slice cY dN fw)).jb (i:=1) (.inr jr) (.slice cU dh cW)).jb (i:=2) (.inr jr) (.slice cl b1 d1)).jb (i:=3) (.inr jr) (.slice cM cS d2)).jb (i:=4) (.inr jr) (.slice cX iC d3)).jb (i:=5) (.inr jr) (.bool true));have IW:=hid (((((((((q_.out.kept eW).far (p:=⟨g,4,none⟩) e2 (.slice cX iC d3)).far (p:=⟨g,5,none⟩) e2 (.bool true)).aP 0 (.slice cY dN fw)).aP 1 (.slice cU dh cW)).aP 2 (.slice cl b1 d1)).aP 3 (.slice cM cS d2)).aP 4 (.slice cX iC d3)).aP 5 (.bool true)).cell;have jB:Kept w ((((((((dV.setCell ⟨g,4,none⟩ (.slice cX iC d3)).setCell ⟨g,5,none⟩ (.bool true)).setCell ⟨w.heap.size+1,0,none⟩ (.slice cY dN fw)).setCell ⟨w.heap.size+1,1,none⟩ (.slice cU dh cW)).setCell ⟨w.heap.size+1,2,none⟩ (.slice cl b1 d1)).setCell ⟨w.heap.size+1,3,none⟩ (.slice cM cS d2)).setCell ⟨w.heap.size+1,4,none⟩ (.slice cX iC d3)).setCell ⟨w.heap.size+1,5,none⟩ (.bool true)):=by
   repeat refine Kept.setCell ?_ (by simp only;omega) _
   exact su
  have bq:=hid (FY.out _ (.slice cX iC d3) true (Ra.map jG) tu.out.1 tu.out.2 jB nP.out mw.out oj.out.1);have VC:=((q_.out.kept eW).far (p:=⟨g,4,none⟩) e2 (.slice cX iC d3)).far (p:=⟨g,5,none⟩) e2 (.bool true);obtain⟨ezc,ezl,ezf⟩:=VC.q;have eg2:=(((I5.out.kept eW).aP 4 (.slice cX iC d3)).aP 5 (.bool true)).cell;clear jB nP mw oj;go_wp2_with fail
  have cu:=IW.out;exact bodyPost_ret (v:= .agg #[.slice cY dN fw,.slice cU dh cW,.slice cl b1 d1,.slice cM cS d2,.slice cX iC d3,.bool true]) (by simp[results,results95,go_sem,cu]) rfl bq.out
end Go.Proofs.YtobpgndkciofhaaGreatDoor
