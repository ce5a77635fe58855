import Derived.Test.YtobpgndkciofhaaGreatDoorF
set_option linter.all false
namespace Go.Proofs.YtobpgndkciofhaaGreatDoor
open Go.RowKit Go.Proofs.Tryz
open Go.Lib (hid)
set_option maxRecDepth 100000
set_option maxHeartbeats 8000000
def Fm (s:jl) (o n:Int) (a:cO):cO×Int:=
 if o=34∧(n<0∨xu (n% 8)=false)then (t0,3)
 else if (if o=34 then n/8 else n)<0∨(s.tb.length:Int)≤(if o=34 then n/8 else n)then (t0,6)
 else
  let t:=s.tb[(if o=34 then n/8 else n).toNat]?.getD r_
  if kn t.d_ t.eo s.ms=false∨kn t.cy t.bE s.ms=false∨¬(a.k=t.d_∧a.e=t.eo)then (t0,8)
  else if o=34 then (if t.d_=3∧t.cy=4 then (⟨t.d_,t.eo⟩,0)else (t0,8))else (⟨t.cy,t.bE⟩,0)
theorem ajq (o n b9 cL:Int) (b2:Value) (s:jl) (w:World) (bj:nO w b2 s) (aL:o=33∨o=34) (aA:n≤9223372036854775807):Calls prog 185 #[.agg #[o,n],.agg #[b9,cL],b2] w (oJ (Fm s o n ⟨b9,cL⟩) w):=by
 obtain⟨cY,ce,cU,cW,dS,ci,gJ,b_,eH,hg,rfl,aX,bl,-⟩:=bj.form;have eU:=hid (fun k e w1 (h:Kept w w1)=>IM k e _ s.ms w1 (aX.kept h));have cp:=hid (fun n w1=>VB n w1);obtain⟨nE,gf,ay,-,-,af⟩:=bl;unfold oJ;obtain⟨R,aw⟩:∃R,R=Fm s o n ⟨b9,cL⟩:=⟨_,rfl⟩;rw[←aw];unfold Fm at aw;have jf:∀(k e c:Int) (X:World),R=(⟨k,e⟩,c)→Kept w X→Ending.returned (.tuple #[.agg #[k,e],c])= .returned (.tuple #[.agg #[R.1.k,R.1.e],R.2])∧Kept w X:=fun k e c X h aa=>⟨by rw[h],aa⟩;generalize Eu:s.ms.length=dN at*;generalize HJ:s.tb.length=dh at*;generalize s.ins.length=b1 at*;generalize s.ds.length=cS at*;generalize s.md.length=ew at*
 cases ay;clear bj aX;by_cases ae:o=34∧(n<0∨xu (n% 8)=false)
 ·rw[if_pos ae]at aw;obtain⟨rfl,ae⟩:=ae;have aI:=hid aw;clear aw aL af;by_cases aj:n<0
  ·go_enter func185,ntmps185
   go_wp2_with fail
   exact bodyPost_ret (v:= .tuple #[.agg #[(),()],.int .i64 3]) (by simp[results,results185,go_sem]) rfl (jf _ _ _ _ aI.out (((((aQ w).alloc _).alloc _).alloc _).alloc _))
  ·have aJ:=ae.resolve_left aj;have pv:=hid (fun w1=>(by have:=cp.out (n% 8) w1;rwa [aJ]at this:Calls prog 187 #[.int .i64 (n% 8)] w1 fun r w'=>r= .returned (.bool false)∧w1=w'));clear ae aJ;go_enter func185,ntmps185
   go_wp2_with (go_at_call 187;refine (pv.out _).mono ?_;rintro e w1 ⟨rfl,rfl⟩)
   exact bodyPost_ret (v:= .tuple #[.agg #[(),()],.int .i64 3]) (by simp[results,results185,go_sem]) rfl (jf _ _ _ _ aI.out (((((aQ w).alloc _).alloc _).alloc _).alloc _))
 rw[if_neg ae]at aw;obtain⟨q,au⟩:∃q:Int,(if o=34 then n/8 else n)=q:=⟨_,rfl⟩;have hq9:q≤9223372036854775807:=by rw[←au];split<;>omega
 have rP:o=34→¬n<0∧xu (n% 8)=true:=fun h=>⟨fun aj=>ae ⟨h,.inl aj⟩,by cases ay:xu (n% 8);exact absurd ⟨h,.inr ay⟩ ae;rfl⟩;rw[au]at aw;have aI:=hid aw;have bz:=hid au;clear aw ae au;go_enter func185,ntmps185
 go_upto_region 2 with fail
 generalize ar:(((w.alloc _).alloc _).alloc _).alloc _=W at*;obtain⟨aW,aS,aT,bU,ec⟩:=Kept.fh ar;clear ar;obtain⟨aC,a7⟩:=aS.p;obtain⟨a1,dz⟩:=bU.p;have bn:=hid af;have dr:=hid aT;have jj:=hid ec;have dD:=hid aS;have ji:=hid bU;clear af aS aT bU ec;rcases aL with rfl|rfl
 case' inl=>
  have au:q=n:=by have:=bz.out;simpa using this.symm
  subst au;clear rP hq9;go_upto_region 6 with fail
 case' inr=>
  have au:n/8=q:=bz.out;obtain⟨aj,et⟩:=rP rfl;have pv:=hid (fun w1=>(by have:=cp.out (n% 8) w1;rwa [et]at this:Calls prog 187 #[.int .i64 (n% 8)] w1 fun r w'=>r= .returned (.bool true)∧w1=w'));clear rP et;go_upto_region 6 with (go_at_call 187;refine (pv.out _).mono ?_;rintro e w1 ⟨rfl,rfl⟩)
  simp only[au];clear au aj
 all_goals
  by_cases aH:q<0∨(dh:Int)≤q
  ·have J:=hid (aI.out.trans (if_pos aH));have bN:=jj.out.cell;have h5:=jj.out.lt;have f4:=jj.out.frozen;obtain⟨cC,al⟩:=hi 0 0 jj.out aW (by omega);have cq:=cC.cell;rcases aH with aH|aH
   all_goals
    (try (have xc:¬q<0:=by have:=bz.out;omega))
    go_wp2_with fail
    exact bodyPost_ret (v:= .tuple #[.agg #[(),()],.int .i64 6]) (by simp[results,results185,go_sem,cq]) rfl (jf _ _ _ _ J.out al)
  ·have aw:=aI.out;rw[if_neg aH]at aw;obtain⟨j,rfl⟩:∃j:Nat,q=j:=⟨q.toNat,by omega⟩;have gu:(j:Int)<dh:=by omega
   obtain⟨b,off,rfl,J,ah⟩:=bn.out (by omega);have ai:s.tb[j]?=some (s.tb[j]'(by omega)):=a8 _;obtain⟨-,⟨b3,-⟩,⟨cT,-⟩,⟨ha,-⟩,⟨h0,-⟩,-⟩:=ah j _ ai;unfold ed at b3 cT ha h0;rw[Int.toNat_natCast,ai,Option.getD_some]at aw;generalize s.tb[j]'(by omega)=T at*;obtain⟨ag,d_,eo,cy,bE,rows⟩:=T;dsimp only at b3 cT ha h0 aw;have fO:=bd J aW.size;have ee:=aW.ad J b3;have fW:=aW.ad J cT;have mS:=aW.ad J ha;have td:=aW.ad J h0;have Bi:=hid aw;clear aw aI bz ah ai b3 cT ha h0 aH;go_upto_region 8 with fail
   have l3':w.heap.size+1+1<W.heap.size+1:=by omega
   have alu:b<W.heap.size+1:=by omega
   have e6:=a1 1;go_cut [9,10] (fun anX p10 bt=>∃(g9 g10:Nat),anX= .pointer (some ⟨g9,0,none⟩)∧p10= .pointer (some ⟨g10,0,none⟩)∧Kept W bt∧ao bt g9 57 #[d_,eo]∧ao bt g10 57 #[cy,bE])
   case first=>
    go_region
    all_goals
     go_wp2_with fail
     go_meet
     case rel=>first
      |exact⟨_,_,rfl,rfl,(((aQ W).alloc _).alloc _).drew,(ao.ZH W _ _ _).drew,((ao.new W _ _).alloc _).drew⟩
      |exact⟨_,_,rfl,rfl,(((aQ W).alloc _).alloc _).drew,((ao.new W _ _).alloc _).drew,(ao.ZH W _ _ _).drew⟩
   case rest=>
    obtain⟨g9,g10,rfl,rfl,aa,kN,SJ⟩:=hcut;generalize wc=e8 at*;have bR:=aW.trans aa;have fc:=dD.out.kept aa;have cm:=dr.out.kept aa;have dx:=ji.out.kept aa;have qb:=jj.out.kept aa;have AW:=kN;have hJ:=SJ;obtain⟨cc1,cl1⟩:=fc.p;obtain⟨Gy,Kb⟩:=cm.p;obtain⟨Ov,OB⟩:=dx.p;obtain⟨cc9,cl9⟩:=AW.p;obtain⟨cc0,cl0⟩:=hJ.p;have wv:=Bi.out;have ql:=hid (fun w1 h=>eU.out d_ eo w1 h);have px:=hid (fun w1 h=>eU.out cy bE w1 h);clear Bi kN SJ eU bn dD dr ji jj aC a7 a1 dz aa e6
    (try clear pv)
    cases ea:kn d_ eo s.ms
    ·have cv:=hid (wv.trans (if_pos (.inl ea)));rw[ea]at ql;clear wv;go_wp2_with (go_at_call_of 80 (Value.agg #[Value.int IntKind.i64 d_,Value.int IntKind.i64 eo]);refine (ql.out _ bR).mono ?_;rintro e cw ⟨rfl,bw⟩;have fe:=bR.trans bw;have cr:=fc.kept bw;have pM:=cr.cell;have GJ:=cr.lt;have c2:=cm.kept bw;have jF:=c2.cell;have GK:=c2.lt;have fu:=dx.kept bw;have GB:=fu.cell;have GL:=fu.lt;have kN:=AW.kept bw;have GD:=kN.cell;have DY:=kN.lt;have je:=hJ.kept bw;have DW:=je.cell;have GI:=je.lt;have hk:=qb.kept bw;have GG:=hk.frozen;have GM:=hk.lt;have GC:=hk.cell)
     obtain⟨cC,al⟩:=hi 0 0 hk fe (by omega);have cq:=cC.cell;exact bodyPost_ret (v:= .tuple #[.agg #[(),()],.int .i64 8]) (by simp[results,results185,go_sem,cq]) rfl (jf _ _ _ _ cv.out al)
    rw[ea]at ql
    cases dK:kn cy bE s.ms
    ·have cv:=hid (wv.trans (if_pos (.inr (.inl dK))));rw[dK]at px;clear wv;go_wp2_with (first
      |(go_at_call_of 80 (Value.agg #[Value.int IntKind.i64 d_,Value.int IntKind.i64 eo]);refine (ql.out _ bR).mono ?_;rintro e cw ⟨rfl,bw⟩;have fe:=bR.trans bw;have cr:=fc.kept bw;have pM:=cr.cell;have GJ:=cr.lt;have c2:=cm.kept bw;have jF:=c2.cell;have GK:=c2.lt;have fu:=dx.kept bw;have GB:=fu.cell;have GL:=fu.lt;have kN:=AW.kept bw;have GD:=kN.cell;have DY:=kN.lt;have je:=hJ.kept bw;have DW:=je.cell;have GI:=je.lt;have hk:=qb.kept bw;have GG:=hk.frozen;have GM:=hk.lt;have GC:=hk.cell)
      |(go_at_call_of 80 (Value.agg #[Value.int IntKind.i64 cy,Value.int IntKind.i64 bE]);refine (px.out _ fe).mono ?_;rintro e eA ⟨rfl,cG⟩;have eO:=fe.trans cG;have gL:=cr.kept cG;have Kk:=gL.cell;have Kr:=gL.lt;have lC:=c2.kept cG;have Kl:=lC.cell;have Ks:=lC.lt;have q6:=fu.kept cG;have Km:=q6.cell;have Kt:=q6.lt;have nF:=kN.kept cG;have Ko:=nF.cell;have Kv:=nF.lt;have ka:=je.kept cG;have Kj:=ka.cell;have Kq:=ka.lt;have jW:=hk.kept cG;have Kp:=jW.frozen;have Ku:=jW.lt;have Kn:=jW.cell))
     obtain⟨cC,al⟩:=hi 0 0 jW eO (by omega);have cq:=cC.cell;exact bodyPost_ret (v:= .tuple #[.agg #[(),()],.int .i64 8]) (by simp[results,results185,go_sem,cq]) rfl (jf _ _ _ _ cv.out al)
    rw[dK]at px;by_cases z6:b9=d_
    case neg=>
     have cv:=hid (wv.trans (if_pos (.inr (.inr (fun h=>z6 h.1)))));have alm:(b9==d_)=false:=by simpa using z6
     clear wv;go_wp2_with (first
      |(go_at_call_of 80 (Value.agg #[Value.int IntKind.i64 d_,Value.int IntKind.i64 eo]);refine (ql.out _ bR).mono ?_;rintro e cw ⟨rfl,bw⟩;have fe:=bR.trans bw;have cr:=fc.kept bw;have pM:=cr.cell;have GJ:=cr.lt;have c2:=cm.kept bw;have jF:=c2.cell;have GK:=c2.lt;have fu:=dx.kept bw;have GB:=fu.cell;have GL:=fu.lt;have kN:=AW.kept bw;have GD:=kN.cell;have DY:=kN.lt;have je:=hJ.kept bw;have DW:=je.cell;have GI:=je.lt;have hk:=qb.kept bw;have GG:=hk.frozen;have GM:=hk.lt;have GC:=hk.cell)
      |(go_at_call_of 80 (Value.agg #[Value.int IntKind.i64 cy,Value.int IntKind.i64 bE]);refine (px.out _ fe).mono ?_;rintro e eA ⟨rfl,cG⟩;have eO:=fe.trans cG;have gL:=cr.kept cG;have Kk:=gL.cell;have Kr:=gL.lt;have lC:=c2.kept cG;have Kl:=lC.cell;have Ks:=lC.lt;have q6:=fu.kept cG;have Km:=q6.cell;have Kt:=q6.lt;have nF:=kN.kept cG;have Ko:=nF.cell;have Kv:=nF.lt;have ka:=je.kept cG;have Kj:=ka.cell;have Kq:=ka.lt;have jW:=hk.kept cG;have Kp:=jW.frozen;have Ku:=jW.lt;have Kn:=jW.cell))
     obtain⟨cC,al⟩:=hi 0 0 jW eO (by omega);have cq:=cC.cell;exact bodyPost_ret (v:= .tuple #[.agg #[(),()],.int .i64 8]) (by simp[results,results185,go_sem,cq]) rfl (jf _ _ _ _ cv.out al)
    by_cases Hg:cL=eo
    case neg=>
     have cv:=hid (wv.trans (if_pos (.inr (.inr (fun h=>Hg h.2)))));have ali:(cL==eo)=false:=by simpa using Hg
     clear wv;replace z6:=z6.symm;subst z6;go_wp2_with (first
      |(go_at_call_of 80 (Value.agg #[Value.int IntKind.i64 d_,Value.int IntKind.i64 eo]);refine (ql.out _ bR).mono ?_;rintro e cw ⟨rfl,bw⟩;have fe:=bR.trans bw;have cr:=fc.kept bw;have pM:=cr.cell;have GJ:=cr.lt;have c2:=cm.kept bw;have jF:=c2.cell;have GK:=c2.lt;have fu:=dx.kept bw;have GB:=fu.cell;have GL:=fu.lt;have kN:=AW.kept bw;have GD:=kN.cell;have DY:=kN.lt;have je:=hJ.kept bw;have DW:=je.cell;have GI:=je.lt;have hk:=qb.kept bw;have GG:=hk.frozen;have GM:=hk.lt;have GC:=hk.cell)
      |(go_at_call_of 80 (Value.agg #[Value.int IntKind.i64 cy,Value.int IntKind.i64 bE]);refine (px.out _ fe).mono ?_;rintro e eA ⟨rfl,cG⟩;have eO:=fe.trans cG;have gL:=cr.kept cG;have Kk:=gL.cell;have Kr:=gL.lt;have lC:=c2.kept cG;have Kl:=lC.cell;have Ks:=lC.lt;have q6:=fu.kept cG;have Km:=q6.cell;have Kt:=q6.lt;have nF:=kN.kept cG;have Ko:=nF.cell;have Kv:=nF.lt;have ka:=je.kept cG;have Kj:=ka.cell;have Kq:=ka.lt;have jW:=hk.kept cG;have Kp:=jW.frozen;have Ku:=jW.lt;have Kn:=jW.cell))
     obtain⟨cC,al⟩:=hi 0 0 jW eO (by omega);have cq:=cC.cell;exact bodyPost_ret (v:= .tuple #[.agg #[(),()],.int .i64 8]) (by simp[results,results185,go_sem,cq]) rfl (jf _ _ _ _ cv.out al)
    replace z6:=z6.symm;replace Hg:=Hg.symm;subst z6 Hg;have wx:=wv.trans (if_neg (by rw[ea,dK];simp));clear wv ea dK
    first
    |(have cv:=hid (wx.trans (if_neg (by decide)))
      clear wx;go_wp2_with (first
       |(go_at_call_of 80 (Value.agg #[Value.int IntKind.i64 d_,Value.int IntKind.i64 eo]);refine (ql.out _ bR).mono ?_;rintro e cw ⟨rfl,bw⟩;have fe:=bR.trans bw;have cr:=fc.kept bw;have pM:=cr.cell;have GJ:=cr.lt;have c2:=cm.kept bw;have jF:=c2.cell;have GK:=c2.lt;have fu:=dx.kept bw;have GB:=fu.cell;have GL:=fu.lt;have kN:=AW.kept bw;have GD:=kN.cell;have DY:=kN.lt;have je:=hJ.kept bw;have DW:=je.cell;have GI:=je.lt;have hk:=qb.kept bw;have GG:=hk.frozen;have GM:=hk.lt;have GC:=hk.cell)
       |(go_at_call_of 80 (Value.agg #[Value.int IntKind.i64 cy,Value.int IntKind.i64 bE]);refine (px.out _ fe).mono ?_;rintro e eA ⟨rfl,cG⟩;have eO:=fe.trans cG;have gL:=cr.kept cG;have Kk:=gL.cell;have Kr:=gL.lt;have lC:=c2.kept cG;have Kl:=lC.cell;have Ks:=lC.lt;have q6:=fu.kept cG;have Km:=q6.cell;have Kt:=q6.lt;have nF:=kN.kept cG;have Ko:=nF.cell;have Kv:=nF.lt;have ka:=je.kept cG;have Kj:=ka.cell;have Kq:=ka.lt;have jW:=hk.kept cG;have Kp:=jW.frozen;have Ku:=jW.lt;have Kn:=jW.cell))
      obtain⟨cC,al⟩:=hi cy bE jW eO (by omega);have cq:=cC.cell;exact bodyPost_ret (v:= .tuple #[.agg #[cy,bE],()]) (by simp[results,results185,go_sem,cq]) rfl (jf _ _ _ _ cv.out al))
    |(have zi:=wx.trans (if_pos (by decide))
      clear wx;go_upto_region 11 with (first
       |(go_at_call_of 80 (Value.agg #[Value.int IntKind.i64 d_,Value.int IntKind.i64 eo]);refine (ql.out _ bR).mono ?_;rintro e cw ⟨rfl,bw⟩;have fe:=bR.trans bw;have cr:=fc.kept bw;have pM:=cr.cell;have GJ:=cr.lt;have c2:=cm.kept bw;have jF:=c2.cell;have GK:=c2.lt;have fu:=dx.kept bw;have GB:=fu.cell;have GL:=fu.lt;have kN:=AW.kept bw;have GD:=kN.cell;have DY:=kN.lt;have je:=hJ.kept bw;have DW:=je.cell;have GI:=je.lt;have hk:=qb.kept bw;have GG:=hk.frozen;have GM:=hk.lt;have GC:=hk.cell)
       |(go_at_call_of 80 (Value.agg #[Value.int IntKind.i64 cy,Value.int IntKind.i64 bE]);refine (px.out _ fe).mono ?_;rintro e eA ⟨rfl,cG⟩;have eO:=fe.trans cG;have gL:=cr.kept cG;have Kk:=gL.cell;have Kr:=gL.lt;have lC:=c2.kept cG;have Kl:=lC.cell;have Ks:=lC.lt;have q6:=fu.kept cG;have Km:=q6.cell;have Kt:=q6.lt;have nF:=kN.kept cG;have Ko:=nF.cell;have Kv:=nF.lt;have ka:=je.kept cG;have Kj:=ka.cell;have Kq:=ka.lt;have jW:=hk.kept cG;have Kp:=jW.frozen;have Ku:=jW.lt;have Kn:=jW.cell))
      by_cases ae:d_=3<;>by_cases aJ:cy=4
      all_goals
       (try (have h3b:(d_==3)=false:=by simpa using ae))
       (try (have h4b:(cy==4)=false:=by simpa using aJ))
       have cv:=hid zi;clear zi
       (try subst ae)
       (try subst aJ)
       go_wp2_with fail
       first
       |(obtain⟨cC,al⟩:=hi 0 0 jW eO (by omega)
         have cq:=cC.cell;exact bodyPost_ret (v:= .tuple #[.agg #[(),()],.int .i64 8]) (by simp[results,results185,go_sem,cq]) rfl (jf _ _ _ _ (by rw[cv.out,if_neg (by simp[*])];rfl) al))
       |(obtain⟨cC,al⟩:=hi 3 eo jW eO (by omega)
         have cq:=cC.cell;exact bodyPost_ret (v:= .tuple #[.agg #[.int .i64 3,eo],()]) (by simp[results,results185,go_sem,cq]) rfl (jf _ _ _ _ (by rw[cv.out];simp) al)))
end Go.Proofs.YtobpgndkciofhaaGreatDoor
