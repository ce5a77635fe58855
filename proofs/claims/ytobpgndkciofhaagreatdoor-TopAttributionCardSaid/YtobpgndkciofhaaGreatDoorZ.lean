import Derived.Test.YtobpgndkciofhaaGreatDoorY
set_option linter.all false
namespace Go.Proofs.YtobpgndkciofhaaGreatDoor
open Go.RowKit Go.Proofs.Tryz
open Go.Lib (hid)
set_option maxRecDepth 100000
set_option maxHeartbeats 32000000
noncomputable def yJ (q:Prop):Bool:= @decide q (Classical.propDecidable _)
theorem L0 {q:Prop} (h:q):yJ q=true:= @decide_eq_true _ (Classical.propDecidable _) h
theorem LZ {q:Prop} (h:¬q):yJ q=false:= @decide_eq_false _ (Classical.propDecidable _) h
theorem dE.OM {f:FuncId} {args:Array Value} {q:Prop} {w w1:World} (h:Calls prog f args w1 (dE q w)):Calls prog f args w1 (fun e w'=>e= .returned (.bool (yJ q))∧Kept w w'):=
 h.mono fun _ _ ⟨b,he,J,aa⟩=>by
  refine⟨he.trans ?_,aa⟩;by_cases au:q
  ·rw[L0 au,J.2 au]
  ·rw[LZ au]
   cases b with
   |true=>exact absurd (J.1 rfl) au
   |false=>rfl
theorem aiB (b2 b4:Value) (s t:bP) (i j:Nat) (p q:bf) (w:World) (bj:iH w b2 s) (bl:iH w b4 t) (hp:s.rs[i]?=some p) (au:t.rs[j]?=some q):Calls prog 19 #[b2,i,b4,j] w (dE (Bq s t p q) w):=by
 have cD:=hid bj;have ch:=hid bl;obtain⟨_,_,_,rfl,bC,b',sK⟩:=bj;obtain⟨xR,yw,rfl,-⟩:=bC;obtain⟨xC,pM,rfl,-⟩:=b';obtain⟨RA1,s8,rfl,-,alM,YB⟩:=sK;obtain⟨_,_,_,rfl,bC,b',sK⟩:=bl;obtain⟨l2,mf,rfl,-⟩:=bC;obtain⟨lY,jF,rfl,-⟩:=b';obtain⟨sx,k7,rfl,-,alN,YC⟩:=sK;have Hv:i<s.rs.length:=(b8 hp).1;have Xr:j<t.rs.length:=(b8 au).1;obtain⟨jO,jQ,rfl,vF,X2⟩:=YB (by omega);obtain⟨jP,jR,rfl,vG,X3⟩:=YC (by omega);obtain⟨⟨u10,-⟩,⟨u11,-⟩,⟨u12,-⟩,⟨u13,-⟩,⟨u14,-⟩,⟨u15,-⟩,⟨VO,u16,e2⟩,⟨vv1,u17,sW⟩,⟨u18,-⟩⟩:=X2 i p hp;obtain⟨⟨u20,-⟩,⟨u21,-⟩,⟨u22,-⟩,⟨u23,-⟩,⟨u24,-⟩,⟨u25,-⟩,⟨VP,u26,dT⟩,⟨vv2,u27,rT⟩,⟨u28,-⟩⟩:=X3 j q au;have rf:=hid (fun w1 (h:Kept w w1)=>aab _ _ s p w1 (cD.out.kept h) (zy.kept ⟨VO,vv1,rfl,e2,sW⟩ h));have sq:=hid (fun w1 (h:Kept w w1)=>aab _ _ t q w1 (ch.out.kept h) (zy.kept ⟨VP,vv2,rfl,dT,rT⟩ h));have q':=hid (fun w1 (h:Kept w w1)=>dE.OM (Vv VO VP p.g q.g w1 (e2.kept h) (dT.kept h)));have kP:=hid (fun w1 (h:Kept w w1)=>dE.OM (Vv vv1 vv2 p.v q.v w1 (sW.kept h) (rT.kept h)));unfold aaa RI at rf sq;obtain⟨Q,cJ⟩:∃Q,Q=Bq s t p q:=⟨_,rfl⟩;rw[←cJ];unfold Bq at cJ;have bz:=hid cJ;generalize sG s p=d1 at*;generalize sG t q=d2 at*;generalize p7 s p=cE at*;generalize p7 t q=a2 at*;obtain⟨ti,tS,rfl,-⟩:=e2.1.at_;obtain⟨tM,uE,rfl,-⟩:=sW.1.at_;obtain⟨M1,Pc,rfl,-⟩:=dT.1.at_;obtain⟨JO,MD,rfl,-⟩:=rT.1.at_;obtain⟨Rq,ON,RF,L2,ME,MG,g1,v1,Mm⟩:=p;obtain⟨Rr,OO,RG,L3,MF,MH,g2,v2,Mn⟩:=q;dsimp only at*;generalize s.ins.length=yE at*;generalize s.ds.length=yD at*;generalize s.rs.length=uq at*;generalize t.ins.length=qR at*;generalize t.ds.length=p1 at*;generalize t.rs.length=oC at*;generalize g1.length=um at*;generalize v1.length=ur at*;generalize g2.length=Ri at*;generalize v2.length=Rl at*;unfold ed at u10 u11 u12 u13 u14 u15 u16 u17 u18 u20 u21 u22 u23 u24 u25 u26 u27 u28;clear cJ e2 sW dT rT X2 X3 YB YC hp au;go_enter func19,ntmps19
 go_upto_region 1 with fail
 generalize ar:(w.alloc _).alloc _=W at*;obtain⟨aF,ec,e0⟩:=Kept.a6 ar;clear ar;replace u10:=aF.ad vF u10;replace u11:=aF.ad vF u11;replace u12:=aF.ad vF u12;replace u13:=aF.ad vF u13;replace u14:=aF.ad vF u14;replace u15:=aF.ad vF u15;replace u16:=aF.ad vF u16;replace u17:=aF.ad vF u17;replace u18:=aF.ad vF u18;replace u20:=aF.ad vG u20;replace u21:=aF.ad vG u21;replace u22:=aF.ad vG u22;replace u23:=aF.ad vG u23;replace u24:=aF.ad vG u24;replace u25:=aF.ad vG u25;replace u26:=aF.ad vG u26;replace u27:=aF.ad vG u27;replace u28:=aF.ad vG u28;have gE:=bd vF aF.size;have gh:=bd vG aF.size;have ae0:(i:Int)<uq:=by omega
 have ae1:(j:Int)<oC:=by omega
 have cN:=hid aF;have jj:=hid ec;have q8:=hid e0;have ej:=hid (show∀X,Kept W X→(Kept W X∧X.cell? ⟨w.heap.size,4,none⟩=some (.slice (some ⟨jO,jQ,none⟩) uq s8)∧X.cell? ⟨w.heap.size+1,4,none⟩=some (.slice (some ⟨jP,jR,none⟩) oC k7)∧X.cell? ⟨jO,jQ+i*9,none⟩=some (.string Rq)∧X.cell? ⟨jO,jQ+i*9+1,none⟩=some (.int .i64 ON)∧X.cell? ⟨jO,jQ+i*9+2,none⟩=some (.int .i64 RF)∧X.cell? ⟨jO,jQ+i*9+3,none⟩=some (.int .i64 L2)∧X.cell? ⟨jO,jQ+i*9+4,none⟩=some (.int .i64 ME)∧X.cell? ⟨jO,jQ+i*9+5,none⟩=some (.int .i64 MG)∧X.cell? ⟨jO,jQ+i*9+6,none⟩=some (.slice ti um tS)∧X.cell? ⟨jO,jQ+i*9+7,none⟩=some (.slice tM ur uE)∧X.cell? ⟨jO,jQ+i*9+8,none⟩=some (.string Mm)∧X.cell? ⟨jP,jR+j*9,none⟩=some (.string Rr)∧X.cell? ⟨jP,jR+j*9+1,none⟩=some (.int .i64 OO)∧X.cell? ⟨jP,jR+j*9+2,none⟩=some (.int .i64 RG)∧X.cell? ⟨jP,jR+j*9+3,none⟩=some (.int .i64 L3)∧X.cell? ⟨jP,jR+j*9+4,none⟩=some (.int .i64 MF)∧X.cell? ⟨jP,jR+j*9+5,none⟩=some (.int .i64 MH)∧X.cell? ⟨jP,jR+j*9+6,none⟩=some (.slice M1 Ri Pc)∧X.cell? ⟨jP,jR+j*9+7,none⟩=some (.slice JO Rl MD)∧X.cell? ⟨jP,jR+j*9+8,none⟩=some (.string Mn))from fun X h=>⟨h,(ec.kept h).cell 4,(e0.kept h).cell 4,h.ad gE u10,h.ad gE u11,h.ad gE u12,h.ad gE u13,h.ad gE u14,h.ad gE u15,h.ad gE u16,h.ad gE u17,h.ad gE u18,h.ad gh u20,h.ad gh u21,h.ad gh u22,h.ad gh u23,h.ad gh u24,h.ad gh u25,h.ad gh u26,h.ad gh u27,h.ad gh u28⟩);have h5:=ec.lt;have ev:=e0.lt;obtain⟨-,z4,y2,te,z11,z12,z13,z14,z15,z16,z17,z18,z20,z21,z22,z23,z24,z25,z26,z27,z28⟩:=ej.out W (aQ _);clear ec e0 aF u10 u11 u12 u13 u14 u15 u16 u17 u18 u20 u21 u22 u23 u24 u25 u26 u27 u28;go_cut [9,10] (fun eK j' bt=>∃(g9 g10:Nat),eK= .pointer (some ⟨g9,0,none⟩)∧j'= .pointer (some ⟨g10,0,none⟩)∧ao bt g9 82 #[Rq,ON,RF,L2,ME,MG,.slice ti um tS,.slice tM ur uE,Mm]∧ao bt g10 82 #[Rr,OO,RG,L3,MF,MH,.slice M1 Ri Pc,.slice JO Rl MD,Mn]∧Kept W bt)
 case first=>
  go_region_held3 (fun X=>Kept W X∧X.cell? ⟨w.heap.size,4,none⟩=some (.slice (some ⟨jO,jQ,none⟩) uq s8)∧X.cell? ⟨w.heap.size+1,4,none⟩=some (.slice (some ⟨jP,jR,none⟩) oC k7)∧X.cell? ⟨jO,jQ+i*9,none⟩=some (.string Rq)∧X.cell? ⟨jO,jQ+i*9+1,none⟩=some (.int .i64 ON)∧X.cell? ⟨jO,jQ+i*9+2,none⟩=some (.int .i64 RF)∧X.cell? ⟨jO,jQ+i*9+3,none⟩=some (.int .i64 L2)∧X.cell? ⟨jO,jQ+i*9+4,none⟩=some (.int .i64 ME)∧X.cell? ⟨jO,jQ+i*9+5,none⟩=some (.int .i64 MG)∧X.cell? ⟨jO,jQ+i*9+6,none⟩=some (.slice ti um tS)∧X.cell? ⟨jO,jQ+i*9+7,none⟩=some (.slice tM ur uE)∧X.cell? ⟨jO,jQ+i*9+8,none⟩=some (.string Mm)∧X.cell? ⟨jP,jR+j*9,none⟩=some (.string Rr)∧X.cell? ⟨jP,jR+j*9+1,none⟩=some (.int .i64 OO)∧X.cell? ⟨jP,jR+j*9+2,none⟩=some (.int .i64 RG)∧X.cell? ⟨jP,jR+j*9+3,none⟩=some (.int .i64 L3)∧X.cell? ⟨jP,jR+j*9+4,none⟩=some (.int .i64 MF)∧X.cell? ⟨jP,jR+j*9+5,none⟩=some (.int .i64 MH)∧X.cell? ⟨jP,jR+j*9+6,none⟩=some (.slice M1 Ri Pc)∧X.cell? ⟨jP,jR+j*9+7,none⟩=some (.slice JO Rl MD)∧X.cell? ⟨jP,jR+j*9+8,none⟩=some (.string Mn))
   ((refine ej.out _ ?_;(with_reducible repeat (first|exact .refl _|assumption|refine .drew ?_|refine .alloc ?_ _|refine .setCell ?_ (by simp only;omega) _|refine .trans ?_ ‹Kept _ _›))))
   ((fail))
  all_goals
   rename_i hHeld;clear hHeld;go_wp2_with fail
   go_meet;exact⟨_,_,rfl,rfl,by first|exact ((aQ _).drew).Gx.1|exact ((aQ _).drew).Gx.2,by first|exact ((aQ _).drew).Gx.1|exact ((aQ _).drew).Gx.2,(((aQ W).alloc _).alloc _).drew⟩
 case rest=>
  obtain⟨g9,g10,rfl,rfl,eM,gK,qD⟩:=hcut;generalize wc=V at*;have er:=hid (cN.out.trans qD);have ec:=jj.out.kept qD;have e0:=q8.out.kept qD;have amK:=al.cell ec.lt (ec.cell 0);have amL:=al.cell ec.lt (ec.cell 1);have amM:=al.cell ec.lt (ec.cell 2);have amN:=al.cell ec.lt (ec.cell 3);have amO:=al.cell ec.lt (ec.cell 4);have amP:=al.cell e0.lt (e0.cell 0);have amQ:=al.cell e0.lt (e0.cell 1);have amR:=al.cell e0.lt (e0.cell 2);have amS:=al.cell e0.lt (e0.cell 3);have amT:=al.cell e0.lt (e0.cell 4);have amU:=al.cell eM.lt (eM.cell 0);have amV:=al.cell eM.lt (eM.cell 1);have amW:=al.cell eM.lt (eM.cell 2);have amX:=al.cell eM.lt (eM.cell 3);have amY:=al.cell eM.lt (eM.cell 4);have amZ:=al.cell eM.lt (eM.cell 5);have am0:=al.cell eM.lt (eM.cell 6);have am1:=al.cell eM.lt (eM.cell 7);have am2:=al.cell eM.lt (eM.cell 8);have amB:=al.cell gK.lt (gK.cell 0);have amC:=al.cell gK.lt (gK.cell 1);have amD:=al.cell gK.lt (gK.cell 2);have amE:=al.cell gK.lt (gK.cell 3);have amF:=al.cell gK.lt (gK.cell 4);have amG:=al.cell gK.lt (gK.cell 5);have amH:=al.cell gK.lt (gK.cell 6);have amI:=al.cell gK.lt (gK.cell 7);have amJ:=al.cell gK.lt (gK.cell 8);have h5:=ec.lt;have ev:=e0.lt;have j_:=eM.lt;have l10:=gK.lt;clear ec e0 eM gK qD ej jj q8 ae0 ae1 z4 y2 gE gh vF vG Hv Xr te z11 z12 z13 z14 z15 z16 z17 z18 z20 z21 z22 z23 z24 z25 z26 z27 z28;go_upto_region 2 with fail
  by_cases he:d1=d2
  case neg=>
   have au:=hid (show¬Q from fun h=>by rw[bz.out]at h;exact he (h.1));have J:=Fl he;clear he;refine fQ (by kernel_rfl) (by kernel_rfl) ?_
   repeat (go_big_quiet_step (first|(go_at_call_of 31 (Value.agg #[Value.string s.ag,Value.int IntKind.i64 s.ms,Value.slice xR yE yw,Value.slice xC yD pM,Value.slice (some ⟨jO,jQ,none⟩) uq s8]);exact al.call (rf.out _ (er.out.trans (al.h _))))|(go_at_call_of 31 (Value.agg #[Value.string t.ag,Value.int IntKind.i64 t.ms,Value.slice l2 qR mf,Value.slice lY p1 jF,Value.slice (some ⟨jP,jR,none⟩) oC k7]);exact al.call (sq.out _ (er.out.trans (al.h _))))|(go_at_call_of 32 (Value.slice ti um tS);exact al.call (q'.out _ (er.out.trans (al.h _))))|(go_at_call_of 32 (Value.slice tM ur uE);exact al.call (kP.out _ (er.out.trans (al.h _))))))
   refine wpQuiet_nil ?_;rintro w2 ⟨⟨bt,cj⟩,bb⟩;obtain rfl:w2=bt:=bb;have bn:=hid (er.out.trans cj);go_wp2_with fail
   go_ret;exact dE.no au.out bn.out
  subst he;by_cases he:cE=a2
  case neg=>
   have au:=hid (show¬Q from fun h=>by rw[bz.out]at h;exact he (h.2.1));have J:=Fl he;clear he;refine fQ (by kernel_rfl) (by kernel_rfl) ?_
   repeat (go_big_quiet_step (first|(go_at_call_of 31 (Value.agg #[Value.string s.ag,Value.int IntKind.i64 s.ms,Value.slice xR yE yw,Value.slice xC yD pM,Value.slice (some ⟨jO,jQ,none⟩) uq s8]);exact al.call (rf.out _ (er.out.trans (al.h _))))|(go_at_call_of 31 (Value.agg #[Value.string t.ag,Value.int IntKind.i64 t.ms,Value.slice l2 qR mf,Value.slice lY p1 jF,Value.slice (some ⟨jP,jR,none⟩) oC k7]);exact al.call (sq.out _ (er.out.trans (al.h _))))|(go_at_call_of 32 (Value.slice ti um tS);exact al.call (q'.out _ (er.out.trans (al.h _))))|(go_at_call_of 32 (Value.slice tM ur uE);exact al.call (kP.out _ (er.out.trans (al.h _))))))
   refine wpQuiet_nil ?_;rintro w2 ⟨⟨bt,cj⟩,bb⟩;obtain rfl:w2=bt:=bb;have bn:=hid (er.out.trans cj);go_wp2_with fail
   go_ret;exact dE.no au.out bn.out
  subst he;by_cases he:L2=L3
  case neg=>
   have au:=hid (show¬Q from fun h=>by rw[bz.out]at h;exact he (h.2.2.1));obtain⟨J,dK⟩:=fr he;clear he;refine fQ (by kernel_rfl) (by kernel_rfl) ?_
   repeat (go_big_quiet_step (first|(go_at_call_of 31 (Value.agg #[Value.string s.ag,Value.int IntKind.i64 s.ms,Value.slice xR yE yw,Value.slice xC yD pM,Value.slice (some ⟨jO,jQ,none⟩) uq s8]);exact al.call (rf.out _ (er.out.trans (al.h _))))|(go_at_call_of 31 (Value.agg #[Value.string t.ag,Value.int IntKind.i64 t.ms,Value.slice l2 qR mf,Value.slice lY p1 jF,Value.slice (some ⟨jP,jR,none⟩) oC k7]);exact al.call (sq.out _ (er.out.trans (al.h _))))|(go_at_call_of 32 (Value.slice ti um tS);exact al.call (q'.out _ (er.out.trans (al.h _))))|(go_at_call_of 32 (Value.slice tM ur uE);exact al.call (kP.out _ (er.out.trans (al.h _))))))
   refine wpQuiet_nil ?_;rintro w2 ⟨⟨bt,cj⟩,bb⟩;obtain rfl:w2=bt:=bb;have bn:=hid (er.out.trans cj);go_wp2_with fail
   go_ret;exact dE.no au.out bn.out
  subst he;by_cases he:ME=MF
  case neg=>
   have au:=hid (show¬Q from fun h=>by rw[bz.out]at h;exact he (h.2.2.2.1));obtain⟨J,dK⟩:=fr he;clear he;refine fQ (by kernel_rfl) (by kernel_rfl) ?_
   repeat (go_big_quiet_step (first|(go_at_call_of 31 (Value.agg #[Value.string s.ag,Value.int IntKind.i64 s.ms,Value.slice xR yE yw,Value.slice xC yD pM,Value.slice (some ⟨jO,jQ,none⟩) uq s8]);exact al.call (rf.out _ (er.out.trans (al.h _))))|(go_at_call_of 31 (Value.agg #[Value.string t.ag,Value.int IntKind.i64 t.ms,Value.slice l2 qR mf,Value.slice lY p1 jF,Value.slice (some ⟨jP,jR,none⟩) oC k7]);exact al.call (sq.out _ (er.out.trans (al.h _))))|(go_at_call_of 32 (Value.slice ti um tS);exact al.call (q'.out _ (er.out.trans (al.h _))))|(go_at_call_of 32 (Value.slice tM ur uE);exact al.call (kP.out _ (er.out.trans (al.h _))))))
   refine wpQuiet_nil ?_;rintro w2 ⟨⟨bt,cj⟩,bb⟩;obtain rfl:w2=bt:=bb;have bn:=hid (er.out.trans cj);go_wp2_with fail
   go_ret;exact dE.no au.out bn.out
  subst he;by_cases he:MG=MH
  case neg=>
   have au:=hid (show¬Q from fun h=>by rw[bz.out]at h;exact he (h.2.2.2.2.1));obtain⟨J,dK⟩:=fr he;clear he;refine fQ (by kernel_rfl) (by kernel_rfl) ?_
   repeat (go_big_quiet_step (first|(go_at_call_of 31 (Value.agg #[Value.string s.ag,Value.int IntKind.i64 s.ms,Value.slice xR yE yw,Value.slice xC yD pM,Value.slice (some ⟨jO,jQ,none⟩) uq s8]);exact al.call (rf.out _ (er.out.trans (al.h _))))|(go_at_call_of 31 (Value.agg #[Value.string t.ag,Value.int IntKind.i64 t.ms,Value.slice l2 qR mf,Value.slice lY p1 jF,Value.slice (some ⟨jP,jR,none⟩) oC k7]);exact al.call (sq.out _ (er.out.trans (al.h _))))|(go_at_call_of 32 (Value.slice ti um tS);exact al.call (q'.out _ (er.out.trans (al.h _))))|(go_at_call_of 32 (Value.slice tM ur uE);exact al.call (kP.out _ (er.out.trans (al.h _))))))
   refine wpQuiet_nil ?_;rintro w2 ⟨⟨bt,cj⟩,bb⟩;obtain rfl:w2=bt:=bb;have bn:=hid (er.out.trans cj);go_wp2_with fail
   go_ret;exact dE.no au.out bn.out
  subst he;by_cases he:Mm=Mn
  case neg=>
   have au:=hid (show¬Q from fun h=>by rw[bz.out]at h;exact he (h.2.2.2.2.2.1));have J:=Fl he;clear he;refine fQ (by kernel_rfl) (by kernel_rfl) ?_
   repeat (go_big_quiet_step (first|(go_at_call_of 31 (Value.agg #[Value.string s.ag,Value.int IntKind.i64 s.ms,Value.slice xR yE yw,Value.slice xC yD pM,Value.slice (some ⟨jO,jQ,none⟩) uq s8]);exact al.call (rf.out _ (er.out.trans (al.h _))))|(go_at_call_of 31 (Value.agg #[Value.string t.ag,Value.int IntKind.i64 t.ms,Value.slice l2 qR mf,Value.slice lY p1 jF,Value.slice (some ⟨jP,jR,none⟩) oC k7]);exact al.call (sq.out _ (er.out.trans (al.h _))))|(go_at_call_of 32 (Value.slice ti um tS);exact al.call (q'.out _ (er.out.trans (al.h _))))|(go_at_call_of 32 (Value.slice tM ur uE);exact al.call (kP.out _ (er.out.trans (al.h _))))))
   refine wpQuiet_nil ?_;rintro w2 ⟨⟨bt,cj⟩,bb⟩;obtain rfl:w2=bt:=bb;have bn:=hid (er.out.trans cj);go_wp2_with fail
   go_ret;exact dE.no au.out bn.out
  subst he;by_cases ai:g1=g2
  case neg=>
   have au:=hid (show¬Q from fun h=>by rw[bz.out]at h;exact ai h.2.2.2.2.2.2.1);rw[LZ ai]at q';clear ai;refine fQ (by kernel_rfl) (by kernel_rfl) ?_
   repeat (go_big_quiet_step (first|(go_at_call_of 31 (Value.agg #[Value.string s.ag,Value.int IntKind.i64 s.ms,Value.slice xR yE yw,Value.slice xC yD pM,Value.slice (some ⟨jO,jQ,none⟩) uq s8]);exact al.call (rf.out _ (er.out.trans (al.h _))))|(go_at_call_of 31 (Value.agg #[Value.string t.ag,Value.int IntKind.i64 t.ms,Value.slice l2 qR mf,Value.slice lY p1 jF,Value.slice (some ⟨jP,jR,none⟩) oC k7]);exact al.call (sq.out _ (er.out.trans (al.h _))))|(go_at_call_of 32 (Value.slice ti um tS);exact al.call (q'.out _ (er.out.trans (al.h _))))|(go_at_call_of 32 (Value.slice tM ur uE);exact al.call (kP.out _ (er.out.trans (al.h _))))))
   refine wpQuiet_nil ?_;rintro w2 ⟨⟨bt,cj⟩,bb⟩;obtain rfl:w2=bt:=bb;have bn:=hid (er.out.trans cj);go_wp2_with fail
   go_ret;exact dE.no au.out bn.out
  rw[L0 ai]at q';by_cases ay:v1=v2
  case neg=>
   have au:=hid (show¬Q from fun h=>by rw[bz.out]at h;exact ay h.2.2.2.2.2.2.2);rw[LZ ay]at kP;clear ay ai;refine fQ (by kernel_rfl) (by kernel_rfl) ?_
   repeat (go_big_quiet_step (first|(go_at_call_of 31 (Value.agg #[Value.string s.ag,Value.int IntKind.i64 s.ms,Value.slice xR yE yw,Value.slice xC yD pM,Value.slice (some ⟨jO,jQ,none⟩) uq s8]);exact al.call (rf.out _ (er.out.trans (al.h _))))|(go_at_call_of 31 (Value.agg #[Value.string t.ag,Value.int IntKind.i64 t.ms,Value.slice l2 qR mf,Value.slice lY p1 jF,Value.slice (some ⟨jP,jR,none⟩) oC k7]);exact al.call (sq.out _ (er.out.trans (al.h _))))|(go_at_call_of 32 (Value.slice ti um tS);exact al.call (q'.out _ (er.out.trans (al.h _))))|(go_at_call_of 32 (Value.slice tM ur uE);exact al.call (kP.out _ (er.out.trans (al.h _))))))
   refine wpQuiet_nil ?_;rintro w2 ⟨⟨bt,cj⟩,bb⟩;obtain rfl:w2=bt:=bb;have bn:=hid (er.out.trans cj);go_wp2_with fail
   go_ret;exact dE.no au.out bn.out
  rw[L0 ay]at kP;have au:=hid (show Q from by rw[bz.out];exact⟨rfl,rfl,rfl,rfl,rfl,rfl,ai,ay⟩);clear ay ai;refine fQ (by kernel_rfl) (by kernel_rfl) ?_
  repeat (go_big_quiet_step (first|(go_at_call_of 31 (Value.agg #[Value.string s.ag,Value.int IntKind.i64 s.ms,Value.slice xR yE yw,Value.slice xC yD pM,Value.slice (some ⟨jO,jQ,none⟩) uq s8]);exact al.call (rf.out _ (er.out.trans (al.h _))))|(go_at_call_of 31 (Value.agg #[Value.string t.ag,Value.int IntKind.i64 t.ms,Value.slice l2 qR mf,Value.slice lY p1 jF,Value.slice (some ⟨jP,jR,none⟩) oC k7]);exact al.call (sq.out _ (er.out.trans (al.h _))))|(go_at_call_of 32 (Value.slice ti um tS);exact al.call (q'.out _ (er.out.trans (al.h _))))|(go_at_call_of 32 (Value.slice tM ur uE);exact al.call (kP.out _ (er.out.trans (al.h _))))))
  refine wpQuiet_nil ?_;rintro w2 ⟨⟨bt,cj⟩,bb⟩;obtain rfl:w2=bt:=bb;have bn:=hid (er.out.trans cj);go_wp2_with fail
  go_ret;exact dE.yes au.out bn.out
theorem Tryz.YS:(prog.info? 86).map (fun i=>(i.zero,i.size,i.bytes))=some (some (.agg #[.string ⟨#[]⟩,.string ⟨#[]⟩,()]),3,40):=by kernel_rfl
theorem RB {ct Z dV:World} {T Uc:TypeId} {v v6:Value} {bh:List jV} {x:jV} {o:Obj} {g9:Nat} {cs:Array Value} (ar:c3 Z ct.heap.size T kZ 3 v bh) (ab:Kept ct Z) (aU:ao Z g9 Uc cs) (bQ:v.ownBlock≠some g9)
  (aO:dV.ownsRow ct.heap.size T 3 v6 (bh.length+1) (bh.flatMap kZ++kZ x)) (aN:(Z.alloc o).grownBy dV v.ownBlock) (dA:v6.ownBlock=v.ownBlock∨v6.ownBlock=some (Z.alloc o).heap.size):
  Kept ct dV∧ao dV g9 Uc cs∧v6.ownBlock≠some g9∧c3 dV ct.heap.size T kZ 3 v6 (bh++[x]):=by
 have aD:=aU.lt;refine⟨CI ab ar (Nat.le_refl _) aN,?_,?_,c3.snoc aO⟩
 ·exact (aN.block g9 (by simp;omega) (fun e=>bQ e.symm)).trans (aU.alloc o)
 ·rcases dA with h|h
  ·rw[h];exact bQ
  ·rw[h];intro e;have:=Option.some.inj e;simp at this;omega
theorem U6 (e_ fm:Value) (A B:cZ) (w:World) (aZ:gy w e_ A) (J:gy w fm B) (Ad:lv A.sc≤60) (Ae:lv B.sc≤60):Calls prog 8 #[e_,fm] w (Kg (j2 A B) w):=by
 obtain⟨i0,hS,hT,hU,hV⟩:=info_parts Tryz.YS;have Nu:=hid (fun w1 (h:Kept w w1)=>ZI e_ A w1 (aZ.kept h));have Nv:=hid (fun w1 (h:Kept w w1)=>ZI fm B w1 (J.kept h));unfold Rp at Nu Nv;obtain⟨c_,b4,b2,rfl,aj,I,U⟩:=aZ;obtain⟨pf,pF,rfl,-⟩:=aj;obtain⟨pj,pJ,rfl,-⟩:=I;obtain⟨sf,pH,rfl,-,XE,HT⟩:=U;obtain⟨c_,b4,b2,rfl,aj,I,U⟩:=J;obtain⟨pg,pG,rfl,-⟩:=aj;obtain⟨pk,pK,rfl,-⟩:=I;obtain⟨ph,pI,rfl,-,alO,YD⟩:=U;have HX1:=hid HT;have Ju:=hid YD;have Be:=hid Ad;have iD:=hid Ae;generalize XL:A.sc.length=jM at*;generalize HI:B.sc.length=mK at*;have Bd:=hid XL;have l1:=hid HI;generalize A.bm.length=p2 at*;generalize A.tb.length=p4 at*;generalize B.bm.length=p3 at*;generalize B.tb.length=ki at*;clear XL HI HT YD Ad Ae;go_enter func8,ntmps8
 go_upto_region 1 with fail
 generalize ar:(w.alloc _).alloc _=W at*;obtain⟨aF,aS,aT⟩:=Kept.a6 ar;clear ar;have cN:=hid aF;have dD:=hid aS;have dr:=hid aT;have ej:=hid (show∀X,Kept W X→(Kept W X∧X.cell? ⟨w.heap.size,0,none⟩=some (.slice pf p2 pF)∧X.cell? ⟨w.heap.size,1,none⟩=some (.slice pj p4 pJ)∧X.cell? ⟨w.heap.size,2,none⟩=some (.slice sf jM pH)∧X.cell? ⟨w.heap.size+1,0,none⟩=some (.slice pg p3 pG)∧X.cell? ⟨w.heap.size+1,1,none⟩=some (.slice pk ki pK)∧X.cell? ⟨w.heap.size+1,2,none⟩=some (.slice ph mK pI))from fun X h=>⟨h,(aS.kept h).cell 0,(aS.kept h).cell 1,(aS.kept h).cell 2,(aT.kept h).cell 0,(aT.kept h).cell 1,(aT.kept h).cell 2⟩);have a7:=aS.lt;have bx:=aT.lt;obtain⟨-,z0,e6,z2,z3,z4,z5⟩:=ej.out W (aQ _);clear aS aT aF;go_cut [5,6] (fun x y bt=>∃v1 v2:Value,v1=x∧v2=y∧zr bt v1 A.sc∧zr bt v2 B.sc∧Kept W bt)
 case first=>
  go_region_held3 (fun X=>Kept W X∧X.cell? ⟨w.heap.size,0,none⟩=some (.slice pf p2 pF)∧X.cell? ⟨w.heap.size,1,none⟩=some (.slice pj p4 pJ)∧X.cell? ⟨w.heap.size,2,none⟩=some (.slice sf jM pH)∧X.cell? ⟨w.heap.size+1,0,none⟩=some (.slice pg p3 pG)∧X.cell? ⟨w.heap.size+1,1,none⟩=some (.slice pk ki pK)∧X.cell? ⟨w.heap.size+1,2,none⟩=some (.slice ph mK pI))
   ((refine ej.out _ ?_;(with_reducible repeat (first|exact .refl _|assumption|refine .drew ?_|refine .alloc ?_ _|refine .setCell ?_ (by simp only;omega) _|refine .trans ?_ ‹Kept _ _›))))
   ((first|(go_at_call_of 17 (Value.agg #[Value.slice pf p2 pF,Value.slice pj p4 pJ,Value.slice sf jM pH]);refine (Nu.out _ (cN.out.trans ?_)).mono ?_;(·(with_reducible repeat (first|exact .refl _|assumption|refine .drew ?_|refine .alloc ?_ _|refine .setCell ?_ (by simp only;omega) _|refine .trans ?_ ‹Kept _ _›)));rintro e eA ⟨v1,rfl,D9,cG⟩;have tq:=hid D9;clear D9;have T4:Kept W eA:=(by (with_reducible repeat (first|exact .refl _|assumption|refine .drew ?_|refine .alloc ?_ _|refine .setCell ?_ (by simp only;omega) _|refine .trans ?_ ‹Kept _ _›))))|(go_at_call_of 17 (Value.agg #[Value.slice pg p3 pG,Value.slice pk ki pK,Value.slice ph mK pI]);refine (Nv.out _ (cN.out.trans ?_)).mono ?_;(·(with_reducible repeat (first|exact .refl _|assumption|refine .drew ?_|refine .alloc ?_ _|refine .setCell ?_ (by simp only;omega) _|refine .trans ?_ ‹Kept _ _›)));rintro e cf ⟨v2,rfl,l7,cQ⟩;have Jc:=hid l7;clear l7;have oe:Kept W cf:=(by (with_reducible repeat (first|exact .refl _|assumption|refine .drew ?_|refine .alloc ?_ _|refine .setCell ?_ (by simp only;omega) _|refine .trans ?_ ‹Kept _ _›))))))
  all_goals
   rename_i hHeld;clear hHeld;go_wp2_with fail
   go_meet;exact⟨v1,v2,rfl,rfl,tq.out.kept cQ,Jc.out,oe⟩
 case rest=>
  obtain⟨v1,v2,rfl,rfl,D9,l7,qD⟩:=hcut;generalize wc=ct at*;have C6:=hid (cN.out.trans qD);have A5:=hid (fun w1 (h:Kept ct w1) dG dw ax aH=>Vg v1 A.sc dG dw w1 (D9.kept h) ax aH);have A6:=hid (fun w1 (h:Kept ct w1) dG dw ax aH=>Vg v2 B.sc dG dw w1 (l7.kept h) ax aH);unfold Vh at A5 A6;have aS:=dD.out.kept qD;have abw:=hid (dr.out.kept qD);obtain⟨aC,a7⟩:=aS.p;clear aS dD dr ej z0 e6 z2 z3 z4 z5 D9 l7 qD bx Nu Nv;go_upto_region 4 with fail
  clear aC a7;go_loopw [7,29] (fun bT y wr=>∃(i:Nat) (xs:List jV),y= .int .i64 i∧i≤jM∧Kept ct wr∧c3 wr ct.heap.size 86 kZ 3 bT xs∧xs=(A.sc.take i).flatMap (fun s=>s.rs.flatMap (nR B.sc s))) (fun _ y _=>jM-(intOf y).toNat)
  case atStart=>exact⟨0,[],rfl,Nat.zero_le _,aQ _,c3.nil _ _ _,rfl⟩
  case round=>
   obtain⟨i,xs,rfl,de,ab,ar,lq⟩:=hrel;have rk:=hid lq;clear lq;by_cases aD:i<jM
   ·obtain⟨n7,AM,rfl,fs,ih⟩:=HX1.out (by omega);have ai:A.sc[i]?=some (A.sc[i]'(by have:=Bd.out;omega)):=a8 _;obtain⟨⟨t0,kf⟩,⟨t1,-⟩,⟨bo,t2,bC⟩,⟨b6,t3,b'⟩,⟨bA,t4,aw⟩⟩:=ih i _ ai;generalize A.sc[i]'(by have:=Bd.out;omega)=s at*;have zm:=hid (show iH w (.agg #[s.ag,s.ms,bo,b6,bA]) s from⟨bo,b6,bA,rfl,bC,b',aw⟩);obtain⟨gN,gS,rfl,-⟩:=bC;obtain⟨fo,fS,rfl,-⟩:=b';obtain⟨eC,rc,rfl,-,B',lS⟩:=aw;unfold ed at t0 t1 t2 t3 t4;have bu:=C6.out.trans ab;replace t0:=bu.ad fs t0;replace t1:=bu.ad fs t1;replace t2:=bu.ad fs t2;replace t3:=bu.ad fs t3;replace t4:=bu.ad fs t4;have vI:=bd fs bu.size;have c6:(i:Int)<jM:=by omega
    have ns:(i:Int)+1≤9223372036854775807:=by omega
    have kQ:=hid kf;have rj:=hid lS;have NB:=hid (fun j=>RJ (Oz B.sc) ai j);have ep:=hid (D1 (fun s=>s.rs.flatMap (nR B.sc s)) ai);generalize s.ins.length=b1 at*;generalize s.ds.length=cS at*;generalize l':s.rs.length=c' at*;have kR:=hid l';have FR:=hid (fun (b:Nat) (h:wr.heap.size≤b) (e:_root_.Go.Value.ownBlock _=some b)=>by have:=World.ownsRow.lt ar b e;omega);clear ih kf ai lS l' bu;go_upto_region 6 with fail
    generalize ar:wr.alloc _=V at*;obtain⟨bX,eM⟩:=Kept.az ar;clear ar;have qD:=ab.trans bX;have G4:=ar.n3 bX;clear t0 t1 t2 t3 t4 vI ab ar bX;have yh:=FR.out wr.heap.size (Nat.le_refl _);clear FR;generalize wr.heap.size=g9 at*;obtain⟨eZ,j_⟩:=eM.p;go_upto_region 7 with fail
    clear eZ j_;go_loopw [7,36] (fun bT y wr=>∃(j:Nat) (bh:List jV),y= .int .i64 j∧j≤c'∧Kept ct wr∧ao wr g9 64 #[s.ag,s.ms,.slice gN b1 gS,.slice fo cS fS,.slice eC c' rc]∧bT.ownBlock≠some g9∧c3 wr ct.heap.size 86 kZ 3 bT bh∧bh=xs++(s.rs.take j).flatMap (nR B.sc s)) (fun _ y _=>c'-(intOf y).toNat)
    case atStart=>exact⟨0,xs,rfl,Nat.zero_le _,qD,eM,(fun e=>absurd (yh e).2 (Nat.lt_irrefl _)),G4,by rw[List.take_zero,List.flatMap_nil,List.append_nil]⟩
    case round=>
     obtain⟨j,bh,rfl,tZ,ab,eM,yh,ar,o5⟩:=hrel;have lF:=hid yh;have tD:=hid o5;clear o5 yh qD G4;by_cases l_:j<c'
     ·obtain⟨fz,ro,rfl,dm,iW⟩:=rj.out (by omega);have gr:s.rs[j]?=some (s.rs[j]'(by have:=kR.out;omega)):=a8 _;obtain⟨⟨u0,nv⟩,⟨u1,-⟩,⟨u2,-⟩,⟨u3,-⟩,⟨u4,-⟩,⟨u5,-⟩,⟨nU,u6,h4⟩,⟨n8,u7,mc⟩,⟨u8,-⟩⟩:=iW j _ gr;generalize s.rs[j]'(by have:=kR.out;omega)=r at*;obtain⟨jg,gc,rfl,-⟩:=h4.1.at_;obtain⟨iS,gx,rfl,-⟩:=mc.1.at_;unfold ed at u0 u1 u2 u3 u4 u5 u6 u7 u8;have bu:=C6.out.trans ab;replace u0:=bu.ad dm u0;replace u1:=bu.ad dm u1;replace u2:=bu.ad dm u2;replace u3:=bu.ad dm u3;replace u4:=bu.ad dm u4;replace u5:=bu.ad dm u5;replace u6:=bu.ad dm u6;replace u7:=bu.ad dm u7;replace u8:=bu.ad dm u8;have Ai:=bd dm bu.size;have hE:(j:Int)<c':=by omega
      have w7:(j:Int)+1≤9223372036854775807:=by omega
      generalize r.g.length=LG at*;generalize r.v.length=yF at*;have oa:=hid nv;have sl:=hid gr;have so:=hid (show bh.length≤120 from by have I:=NB.out j;rw[tD.out,rk.out];have:=Be.out;omega);obtain⟨zN,B1⟩:∃c,c=nR B.sc s r:=⟨_,rfl⟩;have xD:=hid B1;have xM:=hid (show∀c,zN=c→bh++c=xs++(s.rs.take (j+1)).flatMap (nR B.sc s)from fun c h=>by rw[D1 _ gr,←List.append_assoc,←tD.out,←h,B1]);have du:=hid ab;have dO:=hid ar;clear iW h4 mc bu gr nv B1 ar;obtain⟨eZ,j_⟩:=eM.p;go_upto_region 9 with fail
      generalize ar:wr.alloc _=bG at*;obtain⟨eY,q5⟩:=Kept.az ar;clear ar;have fg:=eM.kept eY;clear u0 u1 u2 u3 u4 u5 u6 u7 u8 Ai eZ j_;have bI:=hid (A6.out _ (ab.trans eY) s.ag r.ag kQ.out oa.out);clear ab;generalize wr.heap.size=g11 at*;obtain⟨eZ,j_⟩:=fg.p;obtain⟨zL,Ao⟩:=q5.p;clear fg
      cases sN:pL B.sc s.ag r.ag with
      |none=>
       rw[sN]at bI;simp only[Option.isSome_none]at bI;have ra:=hid (show zN=[⟨s.ag,r.ag,1⟩]from by rw[xD.out];unfold nR;rw[sN]<;>rfl);go_upto_region 11 with (go_at_call 18;refine (bI.out).mono ?_;rintro e w2 ⟨t,k,b2,rfl,⟨_,_,_,rfl,l7,nV,eF⟩,a',-⟩;obtain⟨l2,mf,rfl,-⟩:=l7;obtain⟨lY,jF,rfl,-⟩:=nV;obtain⟨sx,k7,rfl,-⟩:=eF)
       generalize t.ins.length=qR at*;generalize t.ds.length=p1 at*;generalize t.rs.length=oC at*;generalize ar:w2.alloc _=Z at*;have fq:=(Kept.az ar).1;clear ar;have jB:=a'.trans fq;have fg:=(eM.kept eY).kept jB;have lJ:=q5.kept jB;have zd:=hid ((dO.out.n3 eY).n3 jB);have nH:=hid ((du.out.trans eY).trans jB);have A4:=hid fg;have Yx:=nH.out.size;clear jB a' eY eM q5;clear fq;obtain⟨eZ,j_⟩:=fg.p;obtain⟨zL,Ao⟩:=lJ.p;clear fg lJ;have yv:=so.out;go_wp2_with (at_builtin;refine wpList_append_own_at _ rfl (.tmp 53) (.tmp 59) 41 rfl ct.heap.size 86 i0 (.agg #[.string ⟨#[]⟩,.string ⟨#[]⟩,()]) 3 40 underlying41 hS hT hU hV rfl (by decide) _ bh.length (bh.flatMap kZ) rfl (World.ownsRow.alloc zd.out _) ⟨Z.heap.size,0,none⟩ 1 1 (kZ ⟨s.ag,r.ag,1⟩) rfl rfl zK (J' _) (by unfold maxLen;omega) (by omega) (by simp<;>omega) ?_;intro v6 dV aO aN _ dA;have eN:=hid (RB zd.out nH.out A4.out lF.out aO aN dA);clear aO aN dA)
       go_roundw
       case rel=>exact⟨j+1,bh++[⟨s.ag,r.ag,1⟩],by go_num,l_,eN.out.1,eN.out.2.1,eN.out.2.2.1,eN.out.2.2.2,xM.out _ ra.out⟩
       case measure=>simp[intOf];omega
      |some ttk=>
       rw[sN]at bI;simp only[Option.isSome_some]at bI;obtain⟨anb,d_⟩:=ttk;obtain⟨q,au⟩:=ad4 sN;have z_:anb.rs[d_]?.getD lx=q:=by rw[au];rfl
       go_upto_region 12 with (go_at_call 18;refine (bI.out).mono ?_;rintro e w2 ⟨t,k,b2,rfl,bl,a',aw⟩;obtain⟨rfl,rfl⟩:=aw anb d_ rfl;have ch:=hid bl;obtain⟨_,_,_,rfl,l7,nV,eF⟩:=bl;obtain⟨l2,mf,rfl,-⟩:=l7;obtain⟨lY,jF,rfl,-⟩:=nV;obtain⟨sx,k7,rfl,-⟩:=eF;clear aw)
       have jB:=a'.alloc (.cells #[t.ag,t.ms,.slice l2 t.ins.length mf,.slice lY t.ds.length jF,.slice sx t.rs.length k7] 64);have zn:=hid (fun cw (h:Kept (w2.alloc (.cells #[t.ag,t.ms,.slice l2 t.ins.length mf,.slice lY t.ds.length jF,.slice sx t.rs.length k7] 64)) cw)=>dE.OM (aiB _ _ s t j k r q cw (zm.out.kept (((C6.out.trans (du.out.trans eY)).trans jB).trans h)) (ch.out.kept (((aQ _).alloc _).trans h)) sl.out au));clear ch;generalize t.ins.length=qR at*;generalize t.ds.length=p1 at*;generalize t.rs.length=oC at*;have fg:=(eM.kept eY).kept jB;generalize ar:w2.alloc _=Y at*;obtain⟨-,qt⟩:=Kept.az ar;clear ar;have lJ:=q5.kept jB;have Tn:=hid ((dO.out.n3 eY).n3 jB);have xI:=hid ((du.out.trans eY).trans jB);have Yx:=xI.out.size;clear jB a' eY eM q5;generalize w2.heap.size=g12 at*;obtain⟨eZ,j_⟩:=fg.p;obtain⟨zL,Ao⟩:=lJ.p;obtain⟨zM,Ap⟩:=qt.p;have Jt:=hid (zn.out Y (aQ Y));clear zn;by_cases lp:Bq s t r q
       ·have ra:=hid (show zN=[]from by rw[xD.out];unfold nR;rw[sN];simp only;rw[z_,if_pos (Mf.2 lp)]);rw[L0 lp]at Jt;clear lp z_ au sN qt;have HB9:=hid fg;clear fg lJ;go_wp2_with (go_at_call 19;refine (Jt.out).mono ?_;rintro e cw ⟨rfl,bw⟩)
        have uQ:=hid (And.intro (xI.out.trans bw) (And.intro (HB9.out.kept bw) (Tn.out.n3 bw)));go_roundw
        case rel=>exact⟨j+1,bh,by go_num,l_,uQ.out.1,uQ.out.2.1,lF.out,uQ.out.2.2,by have:=xM.out _ ra.out;rw[List.append_nil]at this;exact this⟩
        case measure=>simp[intOf];omega
       ·have ra:=hid (show zN=[⟨s.ag,r.ag,3⟩]from by rw[xD.out];unfold nR;rw[sN];simp only;rw[z_,if_neg (fun h=>lp (Mf.1 h))]);rw[LZ lp]at Jt;clear lp z_ au sN qt;go_upto_region 13 with (go_at_call 19;refine (Jt.out).mono ?_;rintro e Z ⟨rfl,bw⟩)
        replace fg:=fg.kept bw;replace lJ:=lJ.kept bw;have zd:=hid (Tn.out.n3 bw);have nH:=hid (xI.out.trans bw);have A4:=hid fg;have aml:=nH.out.size;clear eZ j_ zL Ao zM Ap bw;obtain⟨eZ,j_⟩:=fg.p;obtain⟨zL,Ao⟩:=lJ.p;clear fg lJ;have yv:=so.out;go_wp2_with (at_builtin;refine wpList_append_own_at _ rfl (.tmp 67) (.tmp 73) 41 rfl ct.heap.size 86 i0 (.agg #[.string ⟨#[]⟩,.string ⟨#[]⟩,()]) 3 40 underlying41 hS hT hU hV rfl (by decide) _ bh.length (bh.flatMap kZ) rfl (World.ownsRow.alloc zd.out _) ⟨Z.heap.size,0,none⟩ 1 1 (kZ ⟨s.ag,r.ag,3⟩) rfl rfl zK (J' _) (by unfold maxLen;omega) (by omega) (by simp<;>omega) ?_;intro v6 dV aO aN _ dA;have eN:=hid (RB zd.out nH.out A4.out lF.out aO aN dA);clear aO aN dA)
        go_roundw
        case rel=>exact⟨j+1,bh++[⟨s.ag,r.ag,3⟩],by go_num,l_,eN.out.1,eN.out.2.1,eN.out.2.2.1,eN.out.2.2.2,xM.out _ ra.out⟩
        case measure=>simp[intOf];omega
     ·obtain rfl:j=c':=by omega
      have hE:¬((j:Int)<j):=by omega
      have Cr:=tD.out;rw[List.take_of_length_le (by rw[kR.out];exact Nat.le_refl _)]at Cr;have aV:=hid (And.intro ab (And.intro ar (show bh=(A.sc.take (i+1)).flatMap (fun s=>s.rs.flatMap (nR B.sc s))from by rw[ep.out,Cr,rk.out])));clear ab ar Cr eM;go_wp2_with fail
      go_roundw
      case rel=>exact⟨i+1,bh,by go_num,aD,aV.out.1,aV.out.2.1,aV.out.2.2⟩
      case measure=>simp[intOf];omega
   ·obtain rfl:i=jM:=by omega
    have c6:¬((i:Int)<i):=by omega
    obtain⟨P,dJ⟩:∃P,P=A.sc.flatMap (fun s=>s.rs.flatMap (nR B.sc s)):=⟨_,rfl⟩;have cj:=rk.out;rw[List.take_of_length_le (by rw[Bd.out];exact Nat.le_refl _),←dJ]at cj;have re:=hid (show P.length≤60 from by have I:=JW (Oz B.sc) A.sc;have:=Be.out;rw[dJ];omega);have rf:=hid dJ;have bc:=abw.out.kept ab;have KJ:=ab;rw[cj]at ar;have Nj:=hid ab;have A_:=hid ar;obtain⟨aM,bx⟩:=bc.p;clear dJ cj bc ab ar KJ;go_upto_region 17 with fail
    clear aM bx;have KJ:=Nj.out;have Wd:=A_.out;go_loopw [7,80] (fun bT y wr=>∃(i:Nat) (xs:List jV),y= .int .i64 i∧i≤mK∧Kept ct wr∧c3 wr ct.heap.size 86 kZ 3 bT xs∧xs=P++(B.sc.take i).flatMap (fun s=>s.rs.flatMap (qy A.sc s))) (fun _ y _=>mK-(intOf y).toNat)
    case atStart=>exact⟨0,P,rfl,Nat.zero_le _,KJ,Wd,by rw[List.take_zero,List.flatMap_nil,List.append_nil]⟩
    case round=>
     obtain⟨i,xs,rfl,de,ab,ar,lq⟩:=hrel;have rk:=hid lq;clear lq;by_cases aD:i<mK
     ·obtain⟨n7,AM,rfl,fs,ih⟩:=Ju.out (by omega);have ai:B.sc[i]?=some (B.sc[i]'(by have:=l1.out;omega)):=a8 _;obtain⟨⟨t0,kf⟩,⟨t1,-⟩,⟨bo,t2,bC⟩,⟨b6,t3,b'⟩,⟨bA,t4,aw⟩⟩:=ih i _ ai;generalize B.sc[i]'(by have:=l1.out;omega)=s at*;have zm:=hid (show iH w (.agg #[s.ag,s.ms,bo,b6,bA]) s from⟨bo,b6,bA,rfl,bC,b',aw⟩);obtain⟨gN,gS,rfl,-⟩:=bC;obtain⟨fo,fS,rfl,-⟩:=b';obtain⟨eC,rc,rfl,-,B',lS⟩:=aw;unfold ed at t0 t1 t2 t3 t4;have bu:=C6.out.trans ab;replace t0:=bu.ad fs t0;replace t1:=bu.ad fs t1;replace t2:=bu.ad fs t2;replace t3:=bu.ad fs t3;replace t4:=bu.ad fs t4;have vI:=bd fs bu.size;have c6:(i:Int)<mK:=by omega
      have ns:(i:Int)+1≤9223372036854775807:=by omega
      have kQ:=hid kf;have rj:=hid lS;have NB:=hid (fun j=>RJ (U3 A.sc) ai j);have ep:=hid (D1 (fun s=>s.rs.flatMap (qy A.sc s)) ai);generalize s.ins.length=b1 at*;generalize s.ds.length=cS at*;generalize l':s.rs.length=c' at*;have kR:=hid l';have FR:=hid (fun (b:Nat) (h:wr.heap.size≤b) (e:_root_.Go.Value.ownBlock _=some b)=>by have:=World.ownsRow.lt ar b e;omega);clear ih kf ai lS l' bu;go_upto_region 19 with fail
      generalize ar:wr.alloc _=V at*;obtain⟨bX,eM⟩:=Kept.az ar;clear ar;have qD:=ab.trans bX;have G4:=ar.n3 bX;clear t0 t1 t2 t3 t4 vI ab ar bX;have yh:=FR.out wr.heap.size (Nat.le_refl _);clear FR;generalize wr.heap.size=g9 at*;obtain⟨eZ,j_⟩:=eM.p;go_upto_region 20 with fail
      clear eZ j_;go_loopw [7,87] (fun bT y wr=>∃(j:Nat) (bh:List jV),y= .int .i64 j∧j≤c'∧Kept ct wr∧ao wr g9 64 #[s.ag,s.ms,.slice gN b1 gS,.slice fo cS fS,.slice eC c' rc]∧bT.ownBlock≠some g9∧c3 wr ct.heap.size 86 kZ 3 bT bh∧bh=xs++(s.rs.take j).flatMap (qy A.sc s)) (fun _ y _=>c'-(intOf y).toNat)
      case atStart=>exact⟨0,xs,rfl,Nat.zero_le _,qD,eM,(fun e=>absurd (yh e).2 (Nat.lt_irrefl _)),G4,by rw[List.take_zero,List.flatMap_nil,List.append_nil]⟩
      case round=>
       obtain⟨j,bh,rfl,tZ,ab,eM,yh,ar,o5⟩:=hrel;have lF:=hid yh;have tD:=hid o5;clear o5 yh qD G4;by_cases l_:j<c'
       ·obtain⟨fz,ro,rfl,dm,iW⟩:=rj.out (by omega);have gr:s.rs[j]?=some (s.rs[j]'(by have:=kR.out;omega)):=a8 _;obtain⟨⟨u0,nv⟩,⟨u1,-⟩,⟨u2,-⟩,⟨u3,-⟩,⟨u4,-⟩,⟨u5,-⟩,⟨nU,u6,h4⟩,⟨n8,u7,mc⟩,⟨u8,-⟩⟩:=iW j _ gr;generalize s.rs[j]'(by have:=kR.out;omega)=r at*;obtain⟨jg,gc,rfl,-⟩:=h4.1.at_;obtain⟨iS,gx,rfl,-⟩:=mc.1.at_;unfold ed at u0 u1 u2 u3 u4 u5 u6 u7 u8;have bu:=C6.out.trans ab;replace u0:=bu.ad dm u0;replace u1:=bu.ad dm u1;replace u2:=bu.ad dm u2;replace u3:=bu.ad dm u3;replace u4:=bu.ad dm u4;replace u5:=bu.ad dm u5;replace u6:=bu.ad dm u6;replace u7:=bu.ad dm u7;replace u8:=bu.ad dm u8;have Ai:=bd dm bu.size;have hE:(j:Int)<c':=by omega
        have w7:(j:Int)+1≤9223372036854775807:=by omega
        generalize r.g.length=LG at*;generalize r.v.length=yF at*;have oa:=hid nv;have sl:=hid gr;have so:=hid (show bh.length≤120 from by have I:=NB.out j;rw[tD.out,rk.out];rw[List.append_assoc,List.length_append];have:=re.out;have:=iD.out;omega);obtain⟨zN,B1⟩:∃c,c=qy A.sc s r:=⟨_,rfl⟩;have xD:=hid B1;have xM:=hid (show∀c,zN=c→bh++c=xs++(s.rs.take (j+1)).flatMap (qy A.sc s)from fun c h=>by rw[D1 _ gr,←List.append_assoc,←tD.out,←h,B1]);have du:=hid ab;have dO:=hid ar;clear iW h4 mc bu gr nv B1 ar;obtain⟨eZ,j_⟩:=eM.p;go_upto_region 22 with fail
        generalize ar:wr.alloc _=bG at*;obtain⟨eY,q5⟩:=Kept.az ar;clear ar;have fg:=eM.kept eY;clear u0 u1 u2 u3 u4 u5 u6 u7 u8 Ai eZ j_;have bI:=hid (A5.out _ (ab.trans eY) s.ag r.ag kQ.out oa.out);clear ab;generalize wr.heap.size=g11 at*;obtain⟨eZ,j_⟩:=fg.p;obtain⟨zL,Ao⟩:=q5.p;clear fg
        cases sN:pL A.sc s.ag r.ag with
        |none=>
         rw[sN]at bI;simp only[Option.isSome_none]at bI;have ra:=hid (show zN=[⟨s.ag,r.ag,2⟩]from by rw[xD.out];unfold qy;rw[sN]<;>rfl);go_upto_region 24 with (go_at_call 18;refine (bI.out).mono ?_;rintro e w2 ⟨t,k,b2,rfl,⟨_,_,_,rfl,l7,nV,eF⟩,a',-⟩;obtain⟨l2,mf,rfl,-⟩:=l7;obtain⟨lY,jF,rfl,-⟩:=nV;obtain⟨sx,k7,rfl,-⟩:=eF)
         generalize t.ins.length=qR at*;generalize t.ds.length=p1 at*;generalize t.rs.length=oC at*;generalize ar:w2.alloc _=Z at*;have fq:=(Kept.az ar).1;clear ar;have jB:=a'.trans fq;have fg:=(eM.kept eY).kept jB;have lJ:=q5.kept jB;have zd:=hid ((dO.out.n3 eY).n3 jB);have nH:=hid ((du.out.trans eY).trans jB);have A4:=hid fg;have Yx:=nH.out.size;clear jB a' eY eM q5;clear fq;obtain⟨eZ,j_⟩:=fg.p;obtain⟨zL,Ao⟩:=lJ.p;clear fg lJ;have yv:=so.out;go_wp2_with (at_builtin;refine wpList_append_own_at _ rfl (.tmp 103) (.tmp 109) 41 rfl ct.heap.size 86 i0 (.agg #[.string ⟨#[]⟩,.string ⟨#[]⟩,()]) 3 40 underlying41 hS hT hU hV rfl (by decide) _ bh.length (bh.flatMap kZ) rfl (World.ownsRow.alloc zd.out _) ⟨Z.heap.size,0,none⟩ 1 1 (kZ ⟨s.ag,r.ag,2⟩) rfl rfl zK (J' _) (by unfold maxLen;omega) (by omega) (by simp<;>omega) ?_;intro v6 dV aO aN _ dA;have eN:=hid (RB zd.out nH.out A4.out lF.out aO aN dA);clear aO aN dA)
         go_roundw
         case rel=>exact⟨j+1,bh++[⟨s.ag,r.ag,2⟩],by go_num,l_,eN.out.1,eN.out.2.1,eN.out.2.2.1,eN.out.2.2.2,xM.out _ ra.out⟩
         case measure=>simp[intOf];omega
        |some ttk=>
         rw[sN]at bI;simp only[Option.isSome_some]at bI;have ra:=hid (show zN=[]from by rw[xD.out];unfold qy;rw[sN]<;>rfl);go_wp2_with (go_at_call 18;refine (bI.out).mono ?_;rintro e w2 ⟨t,k,b2,rfl,⟨_,_,_,rfl,l7,nV,eF⟩,a',-⟩;obtain⟨l2,mf,rfl,-⟩:=l7;obtain⟨lY,jF,rfl,-⟩:=nV;obtain⟨sx,k7,rfl,-⟩:=eF)
         have jB:=a'.alloc (.cells #[t.ag,t.ms,.slice l2 t.ins.length mf,.slice lY t.ds.length jF,.slice sx t.rs.length k7] 64);have uQ:=hid (And.intro ((du.out.trans eY).trans jB) (And.intro ((eM.kept eY).kept jB) ((dO.out.n3 eY).n3 jB)));clear jB a' eY eM q5;go_roundw
         case rel=>exact⟨j+1,bh,by go_num,l_,uQ.out.1,uQ.out.2.1,lF.out,uQ.out.2.2,by have:=xM.out _ ra.out;rw[List.append_nil]at this;exact this⟩
         case measure=>simp[intOf];omega
       ·obtain rfl:j=c':=by omega
        have hE:¬((j:Int)<j):=by omega
        have Cr:=tD.out;rw[List.take_of_length_le (by rw[kR.out];exact Nat.le_refl _)]at Cr;have aV:=hid (And.intro ab (And.intro ar (show bh=P++(B.sc.take (i+1)).flatMap (fun s=>s.rs.flatMap (qy A.sc s))from by rw[ep.out,←List.append_assoc,Cr,rk.out])));clear ab ar Cr eM;go_wp2_with fail
        go_roundw
        case rel=>exact⟨i+1,bh,by go_num,aD,aV.out.1,aV.out.2.1,aV.out.2.2⟩
        case measure=>simp[intOf];omega
     ·obtain rfl:i=mK:=by omega
      have c6:¬((i:Int)<i):=by omega
      have cj:=rk.out;rw[List.take_of_length_le (by rw[l1.out];exact Nat.le_refl _),rf.out]at cj;have aV:=hid (show Kg (j2 A B) w (.returned _) wr from⟨_,rfl,by have h:=ar.yL ac5;rw[cj]at h;exact h,C6.out.trans ab⟩);clear cj ab ar KJ Wd;go_wp2_with fail
      go_ret;exact aV.out
theorem aha {l:List bP} {i:Nat} {x:bP} (h:l[i]?=some x):lv (l.take (i+1))=lv (l.take i)+x.rs.length:=by
 unfold lv;rw[List.take_add_one,h,Option.toList_some,List.map_append,List.sum_append];simp
theorem aaF (bT:Value) (lw:cZ) (w:World) (eV:gy w bT lw):Calls prog 4 #[bT] w (DF (lv lw.sc≤60) w):=by
 have bL:=eV.Y2;have aw:=eV.agd;generalize lw.ms=ms at bL;generalize lw.c1=c1 at bL;obtain⟨_,_,sv0,rfl,-,-,tW⟩:=eV;obtain⟨c_,At,ik,gX,b2,ay,aX,bj⟩:=bL;simp only[Value.agg.injEq,Array.mk.injEq,List.cons.injEq,and_true]at ay;obtain⟨rfl,rfl,rfl⟩:=ay;obtain⟨Vw,yS,sv',ay,am4,am6,am5⟩:=aw;simp only[Value.agg.injEq,Array.mk.injEq,List.cons.injEq,and_true]at ay;obtain⟨rfl,rfl,rfl⟩:=ay;obtain⟨cY,ce,rfl,hme,Lq⟩:=aX;obtain⟨AE',ne',ce',ay,_,vH⟩:=am4.at_;simp only[Value.slice.injEq]at ay;obtain⟨rfl,rfl,rfl⟩:=ay;obtain⟨AT',nt',ct',ay,La,Qr⟩:=am6.at_;simp only[Value.slice.injEq]at ay;obtain⟨rfl,rfl,rfl⟩:=ay;obtain⟨jU,s5,cs,rfl,hns,EG⟩:=am5.at_;obtain⟨AS',DV,ay,-,-,yu⟩:=tW;simp only[Value.slice.injEq]at ay;obtain⟨rfl,Ag,rfl⟩:=ay;have zg:=hid Ag;have HX0:=hid yu;clear yu Ag;obtain⟨ne,bQ⟩:∃n,n=ms.length:=⟨_,rfl⟩;rw[←bQ]at Lq vH hme⊢;have bk:=hid bQ;clear bQ bj am6 am5 am4;have aF:=hid ((aQ w).alloc (.cells #[.slice cY ne ce,.slice At ik gX,.slice jU s5 cs] 26));rcases (show 9<(ne:Int)∨(¬9<(ne:Int)∧9<(ik:Int))∨(¬9<(ne:Int)∧¬9<(ik:Int)∧5<(s5:Int))∨(¬9<(ne:Int)∧¬9<(ik:Int)∧¬5<(s5:Int)) by omega)with h|⟨h,I⟩|⟨h,I,U⟩|⟨h,I,U⟩
 iterate 3
  clear Lq vH Qr EG;go_enter func4,ntmps4
  go_wp2_with fail
  go_ret;exact⟨_,rfl,aF.out,fun h=>by cases h⟩
 go_enter func4,ntmps4
 go_wp2_with fail
 have B:=ao.new w 26 #[.slice cY ne ce,.slice At ik gX,.slice jU s5 cs];have aW:=aF.out;generalize w.alloc (.cells #[.slice cY ne ce,.slice At ik gX,.slice jU s5 cs] 26)=W at*;have b5:=B.cell 0;have aC:=B.cell 1;have aM:=B.cell 2;have ad:=B.lt;go_loopw [5] (fun y wr=>∃i:Nat,y= .int .i64 i∧i≤ne∧wr=W) (fun y _=>ne-(intOf y).toNat)
 case atStart=>exact⟨0,rfl,Nat.zero_le _,rfl⟩
 case round=>
  obtain⟨i,rfl,de,rfl⟩:=hrel;by_cases aD:i<ne
  ·obtain⟨b,off,rfl,J,ah⟩:=Lq (by omega);obtain⟨ey,ZP,VY,_,Hk⟩:=vH (by omega);simp only[Option.some.injEq,Addr.mk.injEq,and_true]at VY;obtain⟨rfl,rfl⟩:=VY;obtain⟨jw,o3⟩:=Hk i aD;have ai:ms[i]?=some (ms[i]'(by have:=bk.out;omega)):=a8 _;obtain⟨t',bW,K',Yc⟩:=ah i _ ai;generalize ms[i]'(by have:=bk.out;omega)=l at*;obtain⟨Su,cl',rfl,HU⟩:=Yc.at3;have gd:=aW.ad J o3;have hO:=aW.ad J K';have dK:=bd J aW.size;have c6:(i:Int)<ne:=by omega
   clear ah Hk o3 K' ai;rcases (show 80<(jw.size:Int)∨(¬80<(jw.size:Int)∧20<(l.length:Int))∨(¬80<(jw.size:Int)∧¬20<(l.length:Int)) by omega)with et|⟨et,tT⟩|⟨et,tT⟩
   iterate 2
    go_wp2_with fail
    go_ret;exact⟨_,rfl,aW,fun h=>by cases h⟩
   obtain⟨nl,Ag⟩:∃n,n=l.length:=⟨_,rfl⟩;rw[←Ag]at hO tT HU t';have e7:=hid Ag;clear Ag Yc;go_wp2_with fail
   go_loopw [6] (fun y uH=>∃k:Nat,y= .int .i64 k∧k≤nl∧uH=wr) (fun y _=>nl-(intOf y).toNat)
   case atStart=>exact⟨0,rfl,Nat.zero_le _,rfl⟩
   case round=>
    obtain⟨k,rfl,j8,rfl⟩:=hrel;by_cases ie:k<nl
    ·obtain⟨eh,mM,rfl,tY,yk⟩:=HU (by omega);have l9:l[k]?=some (l[k]'(by have:=e7.out;omega)):=a8 _;have e3:=yk k _ l9;generalize l[k]'(by have:=e7.out;omega)=x at*;have wK:=aW.ad tY e3;have Eg:=bd tY aW.size;have XB:(k:Int)<nl:=by omega
     clear yk e3 l9;by_cases pX:80<(x.size:Int)
     ·go_wp2_with fail
      go_ret;exact⟨_,rfl,aW,fun h=>by cases h⟩
     ·go_wp2_with fail
      go_roundw
      case rel=>exact⟨k+1,rfl,ie,trivial⟩
      case measure=>simp[intOf];omega
    ·have XB:¬((k:Int)<nl):=by omega
     go_wp2_with fail
     go_roundw
     case rel=>exact⟨i+1,rfl,aD,trivial⟩
     case measure=>simp[intOf];omega
  ·have c6:¬((i:Int)<ne):=by omega
   clear Lq vH;go_wp2_with fail
   go_loopw [3,7] (fun x y uH=>∃(r:Int) (i:Nat),x= .int .i64 r∧(-9223372036854775808≤r∧r≤9223372036854775807)∧y= .int .i64 i∧i≤ik∧uH=wr) (fun _ y _=>ik-(intOf y).toNat)
   case atStart=>exact⟨0,0,rfl,by omega,rfl,Nat.zero_le _,rfl⟩
   case round=>
    obtain⟨r,j,rfl,dm,rfl,tZ,rfl⟩:=hrel;by_cases l_:j<ik
    ·obtain⟨b,off,rfl,J,ah⟩:=Qr (by omega);obtain⟨⟨s,ax⟩,dk,uk,bJ,bp,hn5⟩:=ah j l_;have gd:=aW.ad J ax;have aom:=aW.ad J bp;have dK:=bd J aW.size;have hE:(j:Int)<ik:=by omega
     clear ah ax bp;obtain⟨i_,ig⟩:∃i_,wrap64 (r+uk)=i_:=⟨_,rfl⟩;have hw:=akA (r+uk);rw[ig]at hw;rcases (show 80<(s.size:Int)∨(¬80<(s.size:Int)∧150<i_)∨(¬80<(s.size:Int)∧¬150<i_) by omega)with et|⟨et,tT⟩|⟨et,tT⟩
     iterate 2
      go_wp2_with fail
      go_ret;exact⟨_,rfl,aW,fun h=>by cases h⟩
     go_wp2_with fail
     go_roundw
     case rel=>exact⟨i_,j+1,by rw[ig],hw,rfl,l_,trivial⟩
     case measure=>simp[intOf];omega
    ·have hE:¬((j:Int)<ik):=by omega
     clear Qr;go_wp2_with fail
     go_loopw [4,8] (fun x y uH=>∃i:Nat,x= .int .i64 (lv (lw.sc.take i))∧lv (lw.sc.take i)≤60∧y= .int .i64 i∧i≤s5∧Kept wr uH) (fun _ y _=>s5-(intOf y).toNat)
     case atStart=>exact⟨0,rfl,Nat.zero_le _,rfl,Nat.zero_le _,aQ _⟩
     case round=>
      obtain⟨q,rfl,X0,rfl,Ck,ab⟩:=hrel;have aT:=B.kept ab;have d2:=aT.cell 2;have dl:=aT.lt;by_cases HC:q<s5
      ·obtain⟨b,off,rfl,J,ah⟩:=EG (by omega);have HN:=Gk.kept _ _ _ _ (aW.trans ab) J (ah q HC);obtain⟨⟨jw,g0⟩,⟨e6,g1⟩,⟨v2,g2,dR⟩,⟨v3,g3,fU⟩,v4,g4,jN⟩:=HN;obtain⟨cM,dQ,a6,rfl,_,_⟩:=id dR;obtain⟨cX,iC,b7,rfl,_,_⟩:=id fU;obtain⟨ef,qQ,fh,rfl,hn4,_⟩:=id jN;have z_:lw.sc[q]?=some (lw.sc[q]'(by have:=zg.out;omega)):=a8 _;have df:=aha z_;obtain⟨eP,aoF,VW,WV,fT⟩:=HX0.out (by have:=zg.out;omega);simp only[Option.some.injEq,Addr.mk.injEq,and_true]at VW;obtain⟨rfl,rfl⟩:=VW;obtain⟨-,-,-,-,bA,u4,anc,eZ,rfl,-,hl9,-⟩:=fT q _ z_;unfold ed at u4;have aJ:=(aW.trans ab).ad WV u4;rw[g4]at aJ;simp only[Option.some.injEq,Value.slice.injEq]at aJ;rw[←aJ.2.1]at df hl9;have ep:=hid df;clear aJ u4 fT df WV;have dK:=bd J (aW.trans ab).size;have Cl:(q:Int)<s5:=by omega
       have Bm:=hid (ai2 jw e6 _ _ _ wr dR fU jN);unfold DF at Bm;clear ah EG dR fU jN z_;generalize lv (lw.sc.take q)=vU at*;have Qz:(vU:Int)+qQ≤9223372036854775807:=by omega
       have EM: -9223372036854775808≤(vU:Int)+qQ:=by omega
       by_cases tT:(60:Int)<(vU:Int)+qQ
       ·go_wp2_with fail
        go_ret;exact⟨_,rfl,aW.trans ab,fun h=>by cases h⟩
       ·go_wp2_with fail
        refine Bm.out.mono ?_;rintro e cf ⟨c9,rfl,cQ,_⟩
        cases c9
        ·go_wp2_with fail
         go_ret;exact⟨_,rfl,(aW.trans ab).trans cQ,fun h=>by cases h⟩
        ·go_wp2_with fail
         go_roundw
         case rel=>exact⟨q+1,by rw[ep.out];go_num,by rw[ep.out];omega,by go_num,HC,ab.trans cQ⟩
         case measure=>simp[intOf];omega
      ·have Cl:¬((q:Int)<s5):=by omega
       go_wp2_with fail
       go_ret;exact⟨_,rfl,aW.trans ab,fun _=>by rw[List.take_of_length_le (by rw[←zg.out];omega)]at X0;exact X0⟩
end Go.Proofs.YtobpgndkciofhaaGreatDoor
