import Derived.Test.YtobpgndkciofhaaGreatDoorAJ
set_option linter.all false
namespace Go.Proofs.YtobpgndkciofhaaGreatDoor
open Go.RowKit Go.Proofs.Tryz
open Go.Lib (hid)
set_option maxRecDepth 100000
set_option maxHeartbeats 32000000
theorem ac8 {l:List kS} {i:Nat} {x:kS} (ai:l[i]?=some x) {h:Int} (I:lX x→h=1) (aj:¬lX x→h=0):(mA (l.take i):Int)+h=mA (l.take (i+1)):=by
 rw[U2 ai];by_cases ah:lX x
 ·rw[Ox ah,if_pos rfl,I ah];simp
 ·rw[UZ ah,if_neg (by simp),aj ah];simp
theorem ajT (v:Value) (xs:List Dt) (w:World) (aw:gV w Am 9 v xs) (k0:∀x∈xs,∃A n c,x.bA= .slice A n c) (aq:xs.length≤1000):Calls prog 16 #[v] w (aaW (xs.map (·.qN)) w):=by
 obtain⟨ane,anI,rfl,af⟩:=aw;have bn:=hid af;have NI:=hid k0;have e7:=hid aq;obtain⟨L,bL⟩:∃L,L=xs.map (·.qN):=⟨_,rfl⟩;rw[←bL];have ts:=hid bL;have cD:=hid (fun (v:Value) (l:List Int) (w1:World) (h:fC w1 v l) (aq:l.length≤1000)=>ajo v l w1 h (by omega));unfold smP at cD;have FZ:=hid (show Br L↔(uA (L.flatMap tO) 0).2=0∧(uA (L.flatMap sD) 0).2=0 from Iff.rfl);have TA:=hid (show (L.flatMap tO).length≤1000∧(L.flatMap sD).length≤1000 from⟨Nat.le_trans (zR UE L) (by rw[bL,List.length_map];exact aq),Nat.le_trans (zR Up L) (by rw[bL,List.length_map];exact aq)⟩);generalize aA:xs.length=n at*;have bk:=hid (show L.length=n by rw[bL,List.length_map];exact aA);clear af k0 aq bL;go_enter func16,ntmps16
 go_upto_region 4 with fail
 generalize ar:((w.alloc _).alloc _).alloc _=W at*;obtain⟨aF,aT,ec,lW⟩:=Kept.b7 ar;clear ar;have cN:=hid aF;have dr:=hid aT;have FI:=hid lW;have jj:=hid ec;have K9:=ec.lt;have hl7:=lW.lt;clear aT ec lW aF;have rb:=hid aA;clear aA;go_upto_region 5 with fail
 go_loopw [5,6,18] (fun v5 v6 y wr=>∃(i:Nat) (c d e:Int),y= .int .i64 i∧i≤n∧Two W wr none (w.heap.size+1)∧ao wr (w.heap.size+1) 37 #[i,.int .i64 (mA (L.take i)),.int .i64 c,d,e,(),()]∧
   cn wr W.heap.size v5 ((L.take i).flatMap tO)∧cn wr W.heap.size v6 ((L.take i).flatMap sD)∧h8 v5 v6∧(0≤c∧c≤i)∧(0≤d∧d≤i)∧(0≤e∧e≤i)) (fun _ _ y _=>n-(intOf y).toNat)
 case atStart=>exact⟨0,0,0,0,rfl,Nat.zero_le _,Two.refl _ _ _,jj.out,World.ownsRow_nil _ _ _ _,World.ownsRow_nil _ _ _ _,h8.nil _,by simp,by simp,by simp⟩
 case round=>
  obtain⟨i,c,d,e,rfl,de,bl,aU,Ah,vE,Hh,ah,av,he⟩:=hrel;by_cases aD:i<n
  ·obtain⟨hs,go,rfl,ic,hx⟩:=bn.out (by omega);have ai:xs[i]?=some (xs[i]'(by have:=rb.out;omega)):=a8 _;obtain⟨jy,c',ni,k0⟩:=NI.out _ (List.mem_of_getElem? ai);have K5:L[i]?=some (xs[i]'(by have:=rb.out;omega)).qN:=by rw[ts.out,List.getElem?_map,ai];rfl
   have t0:w.cell? ⟨hs,go+i*9,none⟩=some _:=hx i _ ai 0 _ rfl;have t1:w.cell? ⟨hs,go+i*9+1,none⟩=some _:=hx i _ ai 1 _ rfl;have t2:w.cell? ⟨hs,go+i*9+2,none⟩=some _:=hx i _ ai 2 _ rfl;have t3:w.cell? ⟨hs,go+i*9+3,none⟩=some _:=hx i _ ai 3 _ rfl;have t4:w.cell? ⟨hs,go+i*9+4,none⟩=some _:=hx i _ ai 4 _ rfl;have t5:w.cell? ⟨hs,go+i*9+5,none⟩=some _:=hx i _ ai 5 _ rfl;have t6:w.cell? ⟨hs,go+i*9+6,none⟩=some _:=hx i _ ai 6 _ rfl;have t7:w.cell? ⟨hs,go+i*9+7,none⟩=some _:=hx i _ ai 7 _ rfl;have t8:w.cell? ⟨hs,go+i*9+8,none⟩=some _:=hx i _ ai 8 _ rfl;have mD:=U1 (L.take i);have oY:(L.take i).length≤i:=by rw[List.length_take];omega
   have mX:=hid (fun (h:Int)=>ac8 (h:=h) K5);have HF5:=hid (D1 tO K5);have Ti:=hid (D1 sD K5);have Ba:=hid (show ((L.take i).flatMap tO).length≤1000 from Nat.le_trans (zR UE _) (by rw[List.length_take];exact Nat.le_trans (Nat.min_le_left _ _) (Nat.le_trans (Nat.le_of_lt aD) e7.out)));have Ji:=hid (show ((L.take i).flatMap sD).length≤1000 from Nat.le_trans (zR Up _) (by rw[List.length_take];exact Nat.le_trans (Nat.min_le_left _ _) (Nat.le_trans (Nat.le_of_lt aD) e7.out)));generalize xs[i]'(by have:=rb.out;omega)=x at*;obtain⟨⟨⟨b9,cL,an⟩,⟨dv,be,cc⟩,ft,gF⟩,bA⟩:=x;dsimp only at*;subst k0;have bu:=bl.kept cN.out (Nat.le_succ _);replace t0:=bu.ad ic t0;replace t1:=bu.ad ic t1;replace t2:=bu.ad ic t2;replace t3:=bu.ad ic t3;replace t4:=bu.ad ic t4;replace t5:=bu.ad ic t5;replace t6:=bu.ad ic t6;replace t7:=bu.ad ic t7;replace t8:=bu.ad ic t8;have sO:=bd ic bu.size;have c6:(i:Int)<n:=by omega
   have K8:(i:Int)+1≤9223372036854775807:=by have:=e7.out;omega
   have Hv:(i:Int)+1≤1000:=by have:=e7.out;omega
   obtain⟨dk,bJ,rfl⟩:=il Ah;obtain⟨q4,eQ,rfl⟩:=il vE;generalize (L.take i).flatMap tO=dP at*;generalize (L.take i).flatMap sD=ev at*;have bI:=hid (fun w1=>ad3 ⟨⟨b9,cL,an⟩,⟨dv,be,cc⟩,ft,gF⟩ jy c' ni w1);unfold Kd uB Ct at bI;dsimp only at bI;generalize lX ⟨⟨b9,cL,an⟩,⟨dv,be,cc⟩,ft,gF⟩=aoc at*;have nG:=hid (And.intro ah (And.intro av (And.intro he (show (0:Int)≤mA (L.take i)∧(mA (L.take i):Int)≤i by omega))));have iR:=hid aD;have tq:=hid Hv;generalize (mA (L.take i):Int)=b at*;have n2:=bl.size;have uk:(Value.slice dk dP.length bJ).ownBlock≠some wr.heap.size:=fun k=>Nat.lt_irrefl _ (E9 Ah k);have yC:(Value.slice q4 ev.length eQ).ownBlock≠some wr.heap.size:=fun k=>Nat.lt_irrefl _ (E9 vE k);go_upto_region 7 with fail
   have bX:=(aQ wr).alloc (.cells #[b9,cL,an,dv,be,cc,ft,gF,.slice jy c' ni] 50);have va:j0 W (w.heap.size+1) 50 #[b9,cL,an,dv,be,cc,ft,gF,.slice jy c' ni] wr.heap.size i b c d e (.slice dk dP.length bJ) (.slice q4 ev.length eQ) dP ev (wr.alloc (.cells #[b9,cL,an,dv,be,cc,ft,gF,.slice jy c' ni] 50)):=
    ⟨bl.trans (Two.iZ bX) (.inl rfl),aU.kept bX,Ah.kH bX,vE.kH bX,Hh,K9,ao.new wr 50 #[b9,cL,an,dv,be,cc,ft,gF,.slice jy c' ni],n2,uk,yC⟩
   clear t0 t1 t2 t3 t4 t5 t6 t7 t8 sO ai K5 hx bu bl aU Ah vE Hh ah av he aD de Hv mD oY bX uk yC;generalize wr.alloc (.cells #[b9,cL,an,dv,be,cc,ft,gF,.slice jy c' ni] 50)=V at*;generalize wr.heap.size=g9 at*;have eZ:=va.fg.cell;have j_:=va.fg.lt;go_upto_region 8 with (go_at_call 28;refine (bI.out _).mono ?_;rintro az w1 ⟨h,q,p,f,rfl,Xp,Xo,bY,bc,eh,dy,ak⟩;have eB:=hid (And.intro Xp Xo);clear Xp Xo)
   generalize ar:w1.alloc _=bG at*;obtain⟨fq,gK⟩:=Kept.az ar;clear ar;have eY:=ak.trans fq;have N5:=va.keep eY;clear eZ j_ va ak eY bI;clear fq;generalize w1.heap.size=g10 at*;have lW:=N5.two.fD FI.out (by omega);have De:=hid N5;have wj:=hid gK;obtain⟨rA,l10⟩:=gK.p;obtain⟨kv,EY⟩:=lW.p;clear N5 gK lW;go_cut [26] (fun v bt=>v= .bool (decide (h=0∧q=0∧p=0∧f=0))∧bt=bG)
   case first=>
    by_cases az:h=0
    case neg=>
     have av:=decide_eq_false (fun k:h=0∧q=0∧p=0∧f=0=>az k.1);obtain⟨aO,aN⟩:=fr az;clear az;go_wp2_with fail
     go_meet;exact⟨by rw[av],rfl⟩
    by_cases a6:q=0
    case neg=>
     have av:=decide_eq_false (fun k:h=0∧q=0∧p=0∧f=0=>a6 k.2.1);obtain⟨aO,aN⟩:=fr a6;clear a6;go_wp2_with fail
     go_meet;exact⟨by rw[av],rfl⟩
    by_cases b7:p=0
    case neg=>
     have av:=decide_eq_false (fun k:h=0∧q=0∧p=0∧f=0=>b7 k.2.2.1);obtain⟨aO,aN⟩:=fr b7;clear b7;go_wp2_with fail
     go_meet;exact⟨by rw[av],rfl⟩
    by_cases fh:f=0
    case neg=>
     have av:=decide_eq_false (fun k:h=0∧q=0∧p=0∧f=0=>fh k.2.2.2);obtain⟨aO,aN⟩:=fr fh;clear fh;go_wp2_with fail
     go_meet;exact⟨by rw[av],rfl⟩
    subst az a6 b7 fh;go_wp2_with fail
    go_meet;exact⟨by rfl,rfl⟩
   case rest=>
    obtain⟨rfl,yt⟩:=hcut;obtain rfl:bG=wc:=yt.symm;obtain⟨lg,jt⟩:∃lg,decide (h=0∧q=0∧p=0∧f=0)=lg:=⟨_,rfl⟩;rw[jt];have qc:=hid jt;clear jt;go_upto_if 26 with fail
    go_cut [9] (fun x bt=>x= .pointer (some ⟨g9,0,none⟩)∧∃ey gf eR nj,j0 W (w.heap.size+1) 50 #[b9,cL,an,dv,be,cc,ft,gF,.slice jy c' ni] g9 (i+1) ey gf eR nj (.slice dk dP.length bJ) (.slice q4 ev.length eQ) dP ev bt∧ey=mA (L.take (i+1))∧(0≤gf∧gf≤i+1)∧(0≤eR∧eR≤i+1)∧(0≤nj∧nj≤i+1))
    case first=>
     have bN:=De.out.kW.cell;have h5:=De.out.kW.lt;have f4:=De.out.kW.frozen
     cases lg
     case true=>
      obtain⟨az,a6,b7,fh⟩:=of_decide_eq_true qc.out;have cv:=hid az;have bq:=hid (show j0 W (w.heap.size+1) 50 #[b9,cL,an,dv,be,cc,ft,gF,.slice jy c' ni] g9 (i+1) b c d e (.slice dk dP.length bJ) (.slice q4 ev.length eQ) dP ev _ from De.out.aP 0 (.int .i64 ((i:Int)+1)) (by simp));clear az a6 b7 fh kv EY rA l10;go_wp2_with fail
      go_meet;exact⟨rfl,b,c,d,e,bq.out,by rw[←mX.out h eB.out.1 eB.out.2,cv.out,Int.add_zero],by have:=nG.out;omega,by have:=nG.out;omega,by have:=nG.out;omega⟩
     case false=>
      have dW:=hid (fun w1=>acg i b c d e 0 0 1 h q p f 0 0 w1 (by have:=tq.out;omega) (by omega) (by have:=nG.out;have:=tq.out;omega) (by omega) (by have:=nG.out;have:=tq.out;omega) (by omega) (by have:=nG.out;have:=tq.out;omega) (by omega) (by have:=nG.out;have:=tq.out;omega) (by omega));unfold uB at dW;clear kv EY;go_wp2_with (go_at_call 29;refine (dW.out _).mono ?_;rintro a6 w2 ⟨rfl,a'⟩;have ob:=hid (De.out.keep a');have bN:=ob.out.kW.cell;have h5:=ob.out.kW.lt;have f4:=ob.out.kW.frozen;clear a')
      go_meet;exact⟨rfl,b+h,c+q,d+p,e+f,ob.out.aiV _ _ _ _ _,mX.out h eB.out.1 eB.out.2,by have:=nG.out;omega,by have:=nG.out;omega,by have:=nG.out;omega⟩
    case rest=>
     obtain⟨rfl,ey,gf,eR,nj,KP,Hi,ah,av,he⟩:=hcut;generalize wc=JN at*;have ob:=hid KP;have y9:=hid (And.intro Hi (And.intro ah (And.intro av he)));clear KP Hi ah av he kv EY rA l10 De wj qc mX eB nG bY bc eh dy;go_upto_region 11 with fail
     have eZ:=ob.out.fg.cell;have j_:=ob.out.fg.lt;go_cut [42] (fun v bt=>v= .bool (decide (ft=0∧b9=3))∧bt=JN)
     case first=>
      by_cases az:ft=0
      case neg=>
       have av:=decide_eq_false (fun k:ft=0∧b9=3=>az k.1);obtain⟨aO,aN⟩:=fr az;clear az;go_wp2_with fail
       go_meet;exact⟨by rw[av],rfl⟩
      by_cases a6:b9=3
      case neg=>
       have av:=decide_eq_false (fun k:ft=0∧b9=3=>a6 k.2);rw[az]at eZ;obtain⟨aO,aN⟩:=fr a6;clear az a6;go_wp2_with fail
       go_meet;exact⟨by rw[av],rfl⟩
      have av:=decide_eq_true (And.intro az a6);rw[az,a6]at eZ;clear az a6;go_wp2_with fail
      go_meet;exact⟨by rw[av],rfl⟩
     case rest=>
      obtain⟨rfl,yt⟩:=hcut;obtain rfl:JN=wc:=yt.symm;clear eZ j_;go_upto_if 42 with fail
      obtain⟨H5,XC⟩:∃l,l=dP++(if ft=0∧b9=3 then [an]else []):=⟨_,rfl⟩;have Nn:=hid XC;clear XC;go_cut [5] (fun v bt=>∃dk bJ,v= .slice dk H5.length bJ∧j0 W (w.heap.size+1) 50 #[b9,cL,an,dv,be,cc,ft,gF,.slice jy c' ni] g9 (i+1) ey gf eR nj v (.slice q4 ev.length eQ) H5 ev bt)
      case first=>
       by_cases az:ft=0∧b9=3
       case pos=>
        rw[decide_eq_true az];have cV:=hid (show H5=dP++[an]from Nn.out.trans (congrArg (dP++·) (if_pos az)));have eZ:=ob.out.fg.cell;have j_:=ob.out.fg.lt;clear az;go_wp2_with (at_builtin;refine Fv rfl (.tmp 43) (.tmp 47) rfl rfl (ob.out.xk.kH ((aQ _).alloc _)) rfl (Lt (ao.new _ _ _)) (by have:=Ba.out;simp;omega) (by have:=ob.out.two.size;simp;omega) ?_;intro sb jT aO aN cK;obtain⟨Fy,kv,rfl⟩:=il aO;have jh:=hid ((ob.out.keep ((aQ _).alloc _)).Ur aO aN cK);clear aO aN cK)
        go_meet;rw[cV.out];exact⟨Fy,kv,by simp,by simpa using jh.out⟩
       case neg=>
        rw[decide_eq_false az];have cV:=hid (show H5=dP from Nn.out.trans ((congrArg (dP++·) (if_neg az)).trans (List.append_nil _)));go_wp2_with fail
        go_meet;rw[cV.out];exact⟨dk,bJ,rfl,ob.out⟩
      case rest=>
       obtain⟨A5',c5',rfl,Wz⟩:=hcut;generalize wc=N8 at*;have ri:=hid Wz;clear Wz ob;have Th:=hid (show (L.take (i+1)).flatMap tO=H5 from HF5.out.trans Nn.out.symm);go_upto_region 13 with fail
       have eZ:=ri.out.fg.cell;have j_:=ri.out.fg.lt;go_cut [57] (fun v bt=>v= .bool (decide (gF=0∧dv=3))∧bt=N8)
       case first=>
        by_cases az:gF=0
        case neg=>
         have av:=decide_eq_false (fun k:gF=0∧dv=3=>az k.1);obtain⟨aO,aN⟩:=fr az;clear az;go_wp2_with fail
         go_meet;exact⟨by rw[av],rfl⟩
        by_cases a6:dv=3
        case neg=>
         have av:=decide_eq_false (fun k:gF=0∧dv=3=>a6 k.2);rw[az]at eZ;obtain⟨aO,aN⟩:=fr a6;clear az a6;go_wp2_with fail
         go_meet;exact⟨by rw[av],rfl⟩
        have av:=decide_eq_true (And.intro az a6);rw[az,a6]at eZ;clear az a6;go_wp2_with fail
        go_meet;exact⟨by rw[av],rfl⟩
       case rest=>
        obtain⟨rfl,yt⟩:=hcut;obtain rfl:N8=wc:=yt.symm;clear eZ j_;go_upto_if 57 with fail
        by_cases az:gF=0∧dv=3
        case pos=>
         have Na:=hid (show (L.take (i+1)).flatMap sD=ev++[cc]from Ti.out.trans (congrArg (ev++·) (if_pos az)));rw[decide_eq_true az];have eZ:=ri.out.fg.cell;have j_:=ri.out.fg.lt;clear az;go_wp2_with (at_builtin;refine Fv rfl (.tmp 58) (.tmp 62) rfl rfl (ri.out.yH.kH ((aQ _).alloc _)) rfl (Lt (ao.new _ _ _)) (by have:=Ji.out;simp;omega) (by have:=ri.out.two.size;simp;omega) ?_;intro sb jT aO aN cK;obtain⟨Fy,kv,rfl⟩:=il aO;rw[show (ev++[cc]).length=ev.length+1 by simp]at aO cK;have jh:=hid ((ri.out.keep ((aQ _).alloc _)).acy aO aN cK);clear aO aN cK)
         go_roundw
         case rel=>exact⟨i+1,gf,eR,nj,by go_num,iR.out,jh.out.two,by rw[←y9.out.1];exact jh.out.kW,by rw[Th.out];exact jh.out.xk,by rw[Na.out];exact jh.out.yH,jh.out.ap,y9.out.2.1,y9.out.2.2.1,y9.out.2.2.2⟩
         case measure=>simp[intOf];have:=iR.out;omega
        case neg=>
         have Na:=hid (show (L.take (i+1)).flatMap sD=ev from Ti.out.trans ((congrArg (ev++·) (if_neg az)).trans (List.append_nil _)));rw[decide_eq_false az];go_wp2_with fail
         go_roundw
         case rel=>exact⟨i+1,gf,eR,nj,by go_num,iR.out,ri.out.two,by rw[←y9.out.1];exact ri.out.kW,by rw[Th.out];exact ri.out.xk,by rw[Na.out];exact ri.out.yH,ri.out.ap,y9.out.2.1,y9.out.2.2.1,y9.out.2.2.2⟩
         case measure=>simp[intOf];have:=iR.out;omega
  ·obtain rfl:i=n:=by omega
   have c6:¬((i:Int)<i):=by omega
   rw[List.take_of_length_le (by rw[bk.out];exact Nat.le_refl _)]at aU Ah vE;have ab:=bl.kept cN.out (Nat.le_succ _);have du:=hid ab;have hc:=hid (bl.fD dr.out (by omega));have HD4:=hid aU;have NK:=hid (fun w1 (h:Kept wr w1)=>cD.out _ _ w1 ((cn.reads Ah).kept h) TA.out.1);have NL:=hid (fun w1 (h:Kept wr w1)=>cD.out _ _ w1 ((cn.reads vE).kept h) TA.out.2);obtain⟨⟨oF,cQ⟩,Lj⟩:∃R,uA (L.flatMap tO) 0=R:=⟨_,rfl⟩;obtain⟨⟨yP,eW⟩,Qm⟩:∃R,uA (L.flatMap sD) 0=R:=⟨_,rfl⟩;rw[Lj]at NK;rw[Qm]at NL;rw[Lj,Qm]at FZ;dsimp only at FZ;obtain⟨dk,bJ,rfl⟩:=il Ah;obtain⟨q4,eQ,rfl⟩:=il vE;generalize (L.flatMap tO).length=uk at*;generalize (L.flatMap sD).length=yC at*;generalize W3:(mA L:Int)=J_ at*;have mX:=hid W3;clear bl aU Ah vE Hh ab Lj Qm W3 de aD bn cD ah av he;go_upto_region 18 with (first|(go_at_call_of 30 (Value.slice dk uk bJ);refine (NK.out _ (aQ _)).mono ?_;rintro az w1 ⟨rfl,ak⟩)|(go_at_call_of 30 (Value.slice q4 yC eQ);refine (NL.out _ ak).mono ?_;rintro a6 w2 ⟨rfl,a'⟩))
   have bR:=ak.trans a';have ze:=hid (du.out.trans bR);have c2:=hc.out.kept bR;have hk:=HD4.out.kept bR;clear ak a' NK NL;by_cases bp:cQ=0
   case neg=>
    have au:=hid (show¬Br L from fun k=>bp (FZ.out.1 k).1);obtain⟨aO,aN⟩:=fr bp;clear bp;obtain⟨aM,bx,f2⟩:=c2.q;have bq:=hid (p' c2 ze.out (Nat.le_refl _) () () () () () () ());clear c2 hk bR;go_wp2_with fail
    have cu:=bq.out.1.cell;exact bodyPost_ret (v:= .tuple #[.agg #[(),(),(),(),(),(),()],.int .i64 3]) (by simp[results,results16,go_sem,cu]) rfl ⟨0,0,0,0,0,0,0,3,rfl,iff_of_false (by decide) au.out,fun h=>absurd h (by decide),bq.out.2⟩
   subst bp;by_cases eJ:eW=0
   case neg=>
    have au:=hid (show¬Br L from fun k=>eJ (FZ.out.1 k).2);obtain⟨aO,aN⟩:=fr eJ;clear eJ;obtain⟨aM,bx,f2⟩:=c2.q;have bq:=hid (p' c2 ze.out (Nat.le_refl _) () () () () () () ());clear c2 hk bR;go_wp2_with fail
    have cu:=bq.out.1.cell;exact bodyPost_ret (v:= .tuple #[.agg #[(),(),(),(),(),(),()],.int .i64 3]) (by simp[results,results16,go_sem,cu]) rfl ⟨0,0,0,0,0,0,0,3,rfl,iff_of_false (by decide) au.out,fun h=>absurd h (by decide),bq.out.2⟩
   subst eJ;obtain⟨bN,h5,f4⟩:=hk.q;go_upto_region 21 with fail
   have jW:ao ((w2.setCell ⟨w.heap.size+1,5,none⟩ oF).setCell ⟨w.heap.size+1,6,none⟩ yP) (w.heap.size+1) 37 #[i,J_,.int .i64 c,d,e,oF,yP]:=by
    have:=(hk.aP 5 oF).aP 6 yP;simpa using this
   have lC:=(c2.far (p:=⟨w.heap.size+1,5,none⟩) (by simp only;omega) oF).far (p:=⟨w.heap.size+1,6,none⟩) (by simp only;omega) yP;have T3:=(ze.out.setCell (p:=⟨w.heap.size+1,5,none⟩) (by simp only;omega) oF).setCell (p:=⟨w.heap.size+1,6,none⟩) (by simp only;omega) yP;clear bN h5 f4 c2 hk bR;generalize (w2.setCell ⟨w.heap.size+1,5,none⟩ oF).setCell ⟨w.heap.size+1,6,none⟩ yP=X at*;have bq:=hid (p' lC T3 (Nat.le_refl _) i J_ (.int .i64 c) d e oF yP);obtain⟨bN,h5⟩:=jW.p;obtain⟨aM,bx,f2⟩:=lC.q;clear lC jW T3;go_wp2_with fail
   have cu:=bq.out.1.cell;exact bodyPost_ret (v:= .tuple #[.agg #[i,J_,.int .i64 c,d,e,oF,yP],()]) (by simp[results,results16,go_sem,cu]) rfl ⟨i,J_,c,d,e,oF,yP,0,rfl,iff_of_true rfl (FZ.out.2 (by simp)),fun _=>⟨by rw[bk.out],mX.out.symm⟩,bq.out.2⟩
end Go.Proofs.YtobpgndkciofhaaGreatDoor
