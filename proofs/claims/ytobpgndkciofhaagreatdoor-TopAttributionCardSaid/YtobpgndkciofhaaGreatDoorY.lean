import Derived.Test.YtobpgndkciofhaaGreatDoorX
set_option linter.all false
namespace Go.Proofs.YtobpgndkciofhaaGreatDoor
open Go.RowKit Go.Proofs.Tryz
open Go.Lib (hid)
set_option maxRecDepth 100000
set_option maxHeartbeats 32000000
theorem gb.mono {k:TypeId} {b n mi:Nat} {f:Value→Option Value} {w:World} (h:gb k b n f w) (aA:n≤mi):gb k b mi f w:=by
 obtain⟨D,I,U⟩:=h;exact⟨D,I.mono aA,U⟩
theorem Sg {W w w':World} {c:Nat} (h:Two W w none c) (ai:w.grownBy w' (some c)):Two W w' none c:=
 ⟨ai.os.trans h.os,ai.tape.trans h.tape,ai.output.trans h.output,Nat.le_trans h.size ai.size,fun k aa aH _=>(ai.block k (bd aa h.size) (fun e=>aH (Option.some.inj e))).trans (h.block k aa aH (by simp))⟩
theorem ZI (bT:Value) (l:cZ) (w:World) (bL:gy w bT l):Calls prog 17 #[bT] w (Rp l.sc w):=by
 obtain⟨c_,b4,b2,rfl,aj,I,U⟩:=bL;obtain⟨cY,fw,rfl,-⟩:=aj;obtain⟨cU,cW,rfl,-⟩:=I;obtain⟨jU,hP,rfl,-,Eo,pY⟩:=U;have rk:=hid pY;generalize lR:l.sc.length=aaa at*;have n':=hid lR;generalize l.bm.length=dN at*;generalize l.tb.length=dh at*;clear lR pY;go_enter func17,ntmps17
 go_upto_region 1 with fail
 generalize ar:w.alloc _=W0 at*;obtain⟨aF,aS⟩:=Kept.az ar;clear ar;obtain⟨aC,a7⟩:=aS.p;have Cb:=run_makeMap (P:=prog) 77 W0;go_upto_region 2 with fail
 clear Cb;have G7:=gb.made 9 W0;have bB:=(aQ W0).alloc (.map #[] 0);have aT:=aS.kept bB;have cN:=hid aF;clear aC a7 aS;generalize W0.alloc (.map #[] 0)=ct at*;generalize J:W0.heap.size=b at*;have cg:=hid J;obtain⟨aC,a7⟩:=aT.p;clear J aF;go_upto_region 3 with fail
 clear aC a7 aT;go_loopw [17] (fun y wr=>∃(i:Nat) (F:Value→Option Value),y= .int .i64 i∧i≤aaa∧Kept W0 wr∧gb 9 b i F wr∧tE w b F (l.sc.take i) wr) (fun y _=>aaa-(intOf y).toNat)
 case atStart=>exact⟨0,_,rfl,Nat.zero_le _,bB,G7,fun ag=>rfl⟩
 case round=>
  obtain⟨i,F,rfl,de,ab,br,ye⟩:=hrel;by_cases aD:i<aaa
  ·obtain⟨n7,AM,rfl,fs,ih⟩:=rk.out (by omega);have ai:l.sc[i]?=some (l.sc[i]'(by have:=n'.out;omega)):=a8 _;obtain⟨⟨t0,kf⟩,⟨t1,-⟩,⟨bo,t2,bC⟩,⟨b6,t3,b'⟩,⟨bA,t4,aw⟩⟩:=ih i _ ai;generalize l.sc[i]'(by have:=n'.out;omega)=s at*;have zm:=hid (show iH w (.agg #[s.ag,s.ms,bo,b6,bA]) s from⟨bo,b6,bA,rfl,bC,b',aw⟩);obtain⟨gN,gS,rfl,-⟩:=bC;obtain⟨fo,fS,rfl,-⟩:=b';obtain⟨eC,rc,rfl,-,B',lS⟩:=aw;unfold ed at t0 t1 t2 t3 t4;have bu:=cN.out.trans ab;replace t0:=bu.ad fs t0;replace t1:=bu.ad fs t1;replace t2:=bu.ad fs t2;replace t3:=bu.ad fs t3;replace t4:=bu.ad fs t4;have vI:=bd fs bu.size;have c6:(i:Int)<aaa:=by omega
   have ns:(i:Int)+1≤9223372036854775807:=by omega
   have Ts:=hid (Mp kf);have dO:=hid ai;have rj:=hid lS;have fX:=hid bu;generalize s.ins.length=b1 at*;generalize s.ds.length=cS at*;generalize l':s.rs.length=c' at*;have kR:=hid l';clear ih kf ai lS l' bu;go_upto_region 5 with fail
   generalize ar:wr.alloc _=V at*;obtain⟨bX,fB⟩:=Kept.az ar;clear ar;clear t0 t1 t2 t3 t4 vI;obtain⟨bJ,dP⟩:=fB.p;have aG:=(br.kept bX).look true Tryz.yR Tryz.HY (Tryz.Mj V) Ts.out;have Hx:=ye s.ag
   cases bO:oG (l.sc.take i) s.ag with
   |some t=>
    rw[bO]at Hx;obtain⟨u,hu,QS,OV,RU,ey,mi,G,rfl,KP,-,-⟩:=Hx;obtain⟨_,_,_,he,l7,nV,eF⟩:=KP;simp only[Value.agg.injEq,Array.mk.injEq,List.cons.injEq,true_and,and_true]at he;obtain⟨rfl,rfl,rfl⟩:=he;obtain⟨l2,mf,rfl,-⟩:=l7;obtain⟨lY,jF,rfl,-⟩:=nV;obtain⟨sx,k7,rfl,-⟩:=eF;generalize t.ins.length=qR at*;generalize t.ds.length=p1 at*;generalize t.rs.length=oC at*;rw[hu]at aG;simp only[if_true,Option.getD_some,Option.isSome_some]at aG;have dc:=bX.alloc (.cells #[t.ag,t.ms,.slice l2 qR mf,.slice lY p1 jF,.slice sx oC k7,.map (some ey)] 119);have aV:=hid (And.intro (br.kept dc) ((ye.skip dO.out bO).map (fun _ _ h=>h.kept dc)));have gj:=hid (ab.trans dc);clear hu bO br ye;go_wp2_with fail
    go_roundw
    case rel=>exact⟨i+1,F,by go_num,aD,gj.out,aV.out.1.mono (Nat.le_succ _),aV.out.2⟩
    case measure=>simp[intOf];omega
   |none=>
    rw[bO]at Hx;have Xu:F (.string s.ag)=none:=Hx;rw[Xu]at aG;simp only[if_true,Option.getD_none,Option.isSome_none,R2]at aG;have HFN:=hid bO;clear Hx Xu bO;go_upto_region 7 with fail
    generalize ar:V.alloc _=zF at*;have fq:=(Kept.az ar).1;clear ar;have eY:=bX.trans fq;have IV:=fB.kept fq;clear aG bJ dP;clear fq;obtain⟨bJ,dP⟩:=IV.p;have Cb:=run_makeMap (P:=prog) 117 zF;go_upto_region 8 with fail
    clear Cb;have hG0:=gb.made 9 zF;have bR:=(aQ zF).alloc (.map #[] 0);have SA:=IV.kept bR;have l5c:=IV.lt;have al9:=eY.size;clear bJ dP;generalize zF.alloc (.map #[] 0)=l4 at*;generalize fH:zF.heap.size=c at*;have C2:=hid fH;obtain⟨bJ,dP⟩:=SA.p;have mW:=hid SA;have tr:=hid eY;have du:=hid ab;have cp:=hid br;have HIX:=hid ye;have la:=hid bR;have mZ:=hid (fun (x:World) (h:Two l4 x none c)=>(show Kept zF x from h.kept bR (Nat.le_of_eq fH)));have abL:=hid (fun (x:World) (h:Two l4 x none c)=>fX.out.trans (eY.trans (mZ.out x h)));have HKO:=hid (fun (x:World) (h:Two l4 x none c)=>ab.trans (eY.trans (mZ.out x h)));have HMO:=hid (fun (x:World) (h:Two l4 x none c)=>br.kept (eY.trans (mZ.out x h)));have HIO:=hid (fun (x:World) (h:Two l4 x none c)=>ye.map (fun _ _ g=>g.kept (eY.trans (mZ.out x h))));have HBO:=hid (fun (x:World) (h:Two l4 x none c)=>h.fD mW.out (by omega));have A6:=hid (show c≠b from by have:=br.lt;omega);clear fH br ye bX eY bR fB IV ab;go_upto_region 9 with fail
    clear bJ dP;go_loopw [33] (fun y wr=>∃(j:Nat) (G:Value→Option Value),y= .int .i64 j∧j≤c'∧Two l4 wr none c∧gb 9 c j G wr∧zz G (s.rs.take j)) (fun y _=>c'-(intOf y).toNat)
    case atStart=>exact⟨0,_,rfl,Nat.zero_le _,Two.refl _ _ _,hG0,fun dw=>rfl⟩
    case round=>
     obtain⟨j,G,rfl,tZ,bl,vp,c5⟩:=hrel;by_cases l_:j<c'
     ·obtain⟨fz,ro,rfl,dm,iW⟩:=rj.out (by omega);have gr:s.rs[j]?=some (s.rs[j]'(by have:=kR.out;omega)):=a8 _;obtain⟨⟨u0,nv⟩,⟨u1,-⟩,⟨u2,-⟩,⟨u3,-⟩,⟨u4,-⟩,⟨u5,-⟩,⟨nU,u6,h4⟩,⟨n8,u7,mc⟩,⟨u8,-⟩⟩:=iW j _ gr;generalize s.rs[j]'(by have:=kR.out;omega)=r at*;obtain⟨jg,gc,rfl,-⟩:=h4.1.at_;obtain⟨iS,gx,rfl,-⟩:=mc.1.at_;unfold ed at u0 u1 u2 u3 u4 u5 u6 u7 u8;have bu:=abL.out wr bl;replace u0:=bu.ad dm u0;replace u1:=bu.ad dm u1;replace u2:=bu.ad dm u2;replace u3:=bu.ad dm u3;replace u4:=bu.ad dm u4;replace u5:=bu.ad dm u5;replace u6:=bu.ad dm u6;replace u7:=bu.ad dm u7;replace u8:=bu.ad dm u8;have Ai:=bd dm bu.size;have hE:(j:Int)<c':=by omega
      have w7:(j:Int)+1≤9223372036854775807:=by omega
      generalize r.g.length=LG at*;generalize r.v.length=yF at*;have bn:=hid c5;have ch:=hid bl;have Tt:=hid (Mp nv);have sl:=hid gr;clear iW h4 mc bu gr nv c5 bl;go_upto_region 11 with fail
      generalize ar:wr.alloc _=bG at*;obtain⟨bX,gK⟩:=Kept.az ar;clear ar;have rG:=vp.kept bX;clear u0 u1 u2 u3 u4 u5 u6 u7 u8 Ai;obtain⟨rA,l10⟩:=gK.p;have aG:=rG.look true Tryz.yR Tryz.Ma (Tryz.QQ bG) Tt.out;rw[bn.out r.ag]at aG;have jA:=hid (ch.out.trans (Two.iZ bX) (.inl rfl))
      cases nY:nB (s.rs.take j) r.ag with
      |some k=>
       rw[nY]at aG;simp only[if_true,Option.map_some,Option.getD_some,Option.isSome_some]at aG;have aV:=hid (And.intro rG (bn.out.skip sl.out nY));clear rG vp nY;go_wp2_with fail
       go_roundw
       case rel=>exact⟨j+1,G,by go_num,l_,jA.out,aV.out.1.mono (Nat.le_succ _),aV.out.2⟩
       case measure=>simp[intOf];omega
      |none=>
       rw[nY]at aG;simp only[if_true,Option.map_none,Option.getD_none,Option.isSome_none]at aG;obtain⟨JN,df,vs,dT⟩:=rG.store Tryz.yR Tryz.Ma (by unfold maxLen;omega) Tt.out (.int .i64 (j:Int));have aV:=hid (And.intro vs (And.intro dT (bn.out.put sl.out nY)));clear rG vp nY vs dT;go_wp2_with fail
       go_roundw
       case rel=>exact⟨j+1,_,by go_num,l_,Sg jA.out aV.out.2.1,aV.out.1,aV.out.2.2⟩
       case measure=>simp[intOf];omega
     ·obtain rfl:j=c':=by omega
      have hE:¬((j:Int)<j):=by omega
      rw[List.take_of_length_le (by rw[kR.out];exact Nat.le_refl _)]at c5;obtain⟨N8,df,Wo,l9⟩:=(HMO.out wr bl).store Tryz.yR Tryz.HY (by unfold maxLen;omega) Ts.out (.agg #[s.ag,s.ms,.slice gN b1 gS,.slice fo cS fS,.slice eC j rc,.map (some c)]);have aV:=hid (And.intro Wo (And.intro (((HIO.out wr bl).put dO.out HFN.out ⟨_,_,_,c,_,G,rfl,zm.out,⟨vp,c5⟩,A6.out⟩).map (fun _ _ g=>g.grown l9)) (ag4 (HKO.out wr bl) (Nat.le_of_eq cg.out) l9)));have W1:=HBO.out wr bl;obtain⟨bJ,dP⟩:=W1.p;clear Wo l9 vp c5 bl W1;go_wp2_with fail
      go_roundw
      case rel=>exact⟨i+1,_,by go_num,aD,aV.out.2.2,aV.out.1,aV.out.2.1⟩
      case measure=>simp[intOf];omega
  ·obtain rfl:i=aaa:=by omega
   have c6:¬((i:Int)<i):=by omega
   rw[List.take_of_length_le (by rw[n'.out];exact Nat.le_refl _)]at ye;have aV:=hid (show Rp l.sc w (.returned (.map (some b))) wr from⟨_,rfl,ye.ixR br (cN.out.trans ab),cN.out.trans ab⟩);clear br ye ab;go_wp2_with fail
   go_ret;exact aV.out
def xj (a b:ByteArray):Value:= .agg #[a,b]
theorem ahj {a b c d:ByteArray} (h:xj a b=xj c d):a=c∧b=d:=by
 unfold xj at h;simpa using h
def nM (F:Value→Option Value) (S:ByteArray→ByteArray→Prop):Prop:=∀a b,(S a b→F (xj a b)=some (.bool true))∧(¬S a b→F (xj a b)=none)
theorem nM.HW {F:Value→Option Value} {S T:ByteArray→ByteArray→Prop} (h:nM F S) (e:∀a b,S a b↔T a b):nM F T:=fun a b=>⟨fun t=>(h a b).1 ((e a b).2 t),fun t=>(h a b).2 (fun s=>t ((e a b).1 s))⟩
theorem nM.put {F:Value→Option Value} {S:ByteArray→ByteArray→Prop} (h:nM F S) (c d:ByteArray):nM (yK F (xj c d) (.bool true)) (fun a b=>S a b∨(a=c∧b=d)):=fun a b=>by
 by_cases e:xj a b=xj c d
 ·rw[e,Iu];exact⟨fun _=>rfl,fun k=>absurd (.inr (ahj e)) k⟩
 ·rw[It _ _ e];exact⟨fun k=>(h a b).1 (k.resolve_right (fun g=>e (by rw[g.1,g.2]))),fun k=>(h a b).2 (fun g=>k (.inl g))⟩
def IX (R:Value→Option Value) (D:List Int):Prop:=∀d:Int,R d=if d∈D then some (.bool true)else none
theorem IX.put {R:Value→Option Value} {D:List Int} {i:Nat} {x:Int} (h:IX R (D.take i)) (af:D[i]?=some x):IX (yK R x (.bool true)) (D.take (i+1)):=fun d=>by
 have e:D.take (i+1)=D.take i++[x]:=by rw[List.take_add_one,af,Option.toList_some]
 rw[e];by_cases av:d=x
 ·subst av;rw[Iu,if_pos (by simp)]
 ·rw[It _ _ (fun k=>av (by injection k)),h d];simp[av]
def tQ (S:ByteArray→ByteArray→Prop) (s:bP) (D:List Int) (l:List bf) (a b:ByteArray):Prop:=S a b∨∃r∈l,r.bK∈D∧a=s.ag∧b=r.ag
theorem adP {S:ByteArray→ByteArray→Prop} {s:bP} {D:List Int} {l:List bf} {j:Nat} {r:bf} (aH:l[j]?=some r) (h:r.bK∉D) (a b:ByteArray):tQ S s D (l.take j) a b↔tQ S s D (l.take (j+1)) a b:=by
 unfold tQ;rw[List.take_add_one,aH,Option.toList_some];refine or_congr Iff.rfl ⟨fun⟨q,I,U⟩=>⟨q,List.mem_append_left _ I,U⟩,fun⟨q,I,U⟩=> ?_⟩;rcases List.mem_append.1 I with I|I
 ·exact⟨q,I,U⟩
 ·rw[List.mem_singleton.1 I]at U;exact absurd U.1 h
theorem adQ {S:ByteArray→ByteArray→Prop} {s:bP} {D:List Int} {l:List bf} {j:Nat} {r:bf} (aH:l[j]?=some r) (h:r.bK∈D) (a b:ByteArray):(tQ S s D (l.take j) a b∨(a=s.ag∧b=r.ag))↔tQ S s D (l.take (j+1)) a b:=by
 unfold tQ;rw[List.take_add_one,aH,Option.toList_some,or_assoc];refine or_congr Iff.rfl ⟨fun k=> ?_,fun⟨q,I,U⟩=> ?_⟩
 ·rcases k with⟨q,I,U⟩|k
  ·exact⟨q,List.mem_append_left _ I,U⟩
  ·exact⟨r,List.mem_append_right _ (List.mem_singleton.2 rfl),h,k⟩
 ·rcases List.mem_append.1 I with I|I
  ·exact .inl ⟨q,I,U⟩
  ·rw[List.mem_singleton.1 I]at U;exact .inr U.2
theorem gb.two {k:TypeId} {b n c:Nat} {f:Value→Option Value} {w w':World} (h:gb k b n f w) (bS:Two w w' none c) (bQ:b≠c):gb k b n f w':=h.block (bS.block b h.lt bQ (by simp))
def Kf (b n:Nat) (S:ByteArray→ByteArray→Prop) (w:World) (e:Ending) (w':World):Prop:=e= .returned (.tuple #[])∧∃mi F,mi≤n∧gb 112 b mi F w'∧nM F S∧Two w w' none b
theorem Vc (b n:Nat) (F:Value→Option Value) (S:ByteArray→ByteArray→Prop) (b2 v:Value) (s:bP) (D:List Int) (dI w:World) (br:gb 112 b n F w) (aA:n+s.rs.length≤1000000) (hF:nM F S) (aa:Kept dI w) (J:dI.heap.size≤b) (bj:iH dI b2 s) (ax:s.ag.size≤140737488355328)
  (b':fC w v D) (V7:∀d∈D,0≤d∧d≤1000000) (KG:D.length≤1000000):Calls prog 47 #[.map (some b),b2,v] w (Kf b (n+s.rs.length) (tQ S s D s.rs) w):=by
 obtain⟨bo,b6,bA,rfl,bC,hDs,aw⟩:=bj;obtain⟨gN,gS,rfl,-⟩:=bC;obtain⟨fo,fS,rfl,-⟩:=hDs;obtain⟨eC,rc,rfl,-,B',lS⟩:=aw;obtain⟨iS,gx,rfl,Al⟩:=b'.at_;have rj:=hid lS;have Bn:=hid Al;have I7:=hid V7;have aV:=hid hF;have bk:=hid aA;generalize s.ins.length=b1 at*;generalize s.ds.length=cS at*;generalize l':s.rs.length=c' at*;generalize XM:D.length=yF at*;have kR:=hid l';have Nw:=hid XM;have Bm:=hid ax;clear lS Al V7 hF aA l' XM b' ax;go_enter func47,ntmps47
 go_upto_region 1 with fail
 generalize ar:w.alloc _=W0 at*;obtain⟨aF,ec⟩:=Kept.az ar;clear ar;have Eg:b≠w.heap.size:=by have:=br.lt;omega
 have Cb:=run_makeMap (P:=prog) 171 W0;go_upto_region 2 with fail
 clear Cb;have Ha:=gb.made 3 W0;have bB:=(aQ W0).alloc (.map #[] 0);have Sz:=ec.kept bB;have hx:=ec.lt;have iP:=hid (aF.trans bB);have tt:=hid (br.kept (aF.trans bB));have Hi:b≠W0.heap.size:=by have:=br.lt;have:=aF.size;omega
 clear ec;generalize W0.alloc (.map #[] 0)=ct at*;generalize ah:W0.heap.size=c at*;have Nl:=hid (fun (x:World) (h:Two ct x none c)=>aF.trans (h.kept bB (Nat.le_of_eq ah)));clear ah aF bB br;go_upto_region 3 with fail
 go_loopw [14] (fun y wr=>∃(i:Nat) (R:Value→Option Value),y= .int .i64 i∧i≤yF∧Two ct wr none c∧gb 3 c i R wr∧IX R (D.take i)) (fun y _=>yF-(intOf y).toNat)
 case atStart=>exact⟨0,_,rfl,Nat.zero_le _,Two.refl _ _ _,Ha,fun d=>by simp⟩
 case round=>
  obtain⟨i,R,rfl,de,bl,G8,G2⟩:=hrel;by_cases aD:i<yF
  ·obtain⟨fm,aoR,rfl,QE,vJ⟩:=Bn.out (by omega);have ai:D[i]?=some (D[i]'(by have:=Nw.out;omega)):=a8 _;have t0:=vJ i _ ai;have pO:=I7.out _ (List.mem_of_getElem? ai);generalize D[i]'(by have:=Nw.out;omega)=x at*;have bu:=Nl.out wr bl;replace t0:=bu.ad QE t0;have ami:=bd QE bu.size;have c6:(i:Int)<yF:=by omega
   have ns:(i:Int)+1≤9223372036854775807:=by omega
   obtain⟨bG,df,vs,dT⟩:=G8.store Tryz.YR Tryz.YL (by unfold maxLen;omega) (YQ (n:=x) (by omega) (by omega)) (.bool true);have k':=hid (And.intro vs (And.intro (Sg bl dT) (G2.put ai)));clear vs dT G2 ai G8 bl bu vJ pO;go_wp2_with fail
   go_roundw
   case rel=>exact⟨i+1,_,by go_num,aD,k'.out.2.1,k'.out.1,k'.out.2.2⟩
   case measure=>simp[intOf];omega
  ·obtain rfl:i=yF:=by omega
   have c6:¬((i:Int)<i):=by omega
   rw[List.take_of_length_le (by rw[Nw.out];exact Nat.le_refl _)]at G2;have pN:=Nl.out wr bl;have MU:=bl.fD Sz (Nat.ne_of_lt hx);have G_:=tt.out.two bl Hi;have zb:=hid G2;have C':=hid G8;have gj:=hid pN;have hbs:=G_.lt;have hv:=G8.lt;clear Sz tt bl G2 pN G8 Nl;generalize wr=e8 at*;have A7:=hid (fun (x:World) (h:Two e8 x none b)=>C'.out.two h (Ne.symm Hi));have za:=hid (fun (x:World) (h:Two e8 x none b)=>h.fD MU (Ne.symm Eg));have tr:=hid (fun (x:World) (h:Two e8 x none b)=>h.kept (aa.trans gj.out) J);obtain⟨bN,h5⟩:=MU.p;clear MU;go_upto_region 8 with fail
   clear bN h5;go_loopw [24] (fun y wr=>∃(j:Nat) (G:Value→Option Value),y= .int .i64 j∧j≤c'∧Two e8 wr none b∧gb 112 b (n+j) G wr∧nM G (tQ S s D (s.rs.take j))) (fun y _=>c'-(intOf y).toNat)
   case atStart=>exact⟨0,F,rfl,Nat.zero_le _,Two.refl _ _ _,G_,aV.out.HW (fun a b=>⟨.inl,fun h=>h.elim id (fun⟨_,h,_⟩=>by cases h)⟩)⟩
   case round=>
    obtain⟨j,G,rfl,tZ,bl,vp,c5⟩:=hrel;by_cases l_:j<c'
    ·obtain⟨fz,ro,rfl,dm,iW⟩:=rj.out (by omega);have gr:s.rs[j]?=some (s.rs[j]'(by have:=kR.out;omega)):=a8 _;obtain⟨⟨u0,nv⟩,⟨u1,W_,W'⟩,⟨u2,-⟩,⟨u3,-⟩,⟨u4,-⟩,⟨u5,-⟩,⟨nU,u6,h4⟩,⟨n8,u7,mc⟩,⟨u8,-⟩⟩:=iW j _ gr;generalize s.rs[j]'(by have:=kR.out;omega)=r at*;obtain⟨jg,gc,rfl,-⟩:=h4.1.at_;obtain⟨JO,MD,rfl,-⟩:=mc.1.at_;unfold ed at u0 u1 u2 u3 u4 u5 u6 u7 u8;have bu:=tr.out wr bl;replace u0:=bu.ad dm u0;replace u1:=bu.ad dm u1;replace u2:=bu.ad dm u2;replace u3:=bu.ad dm u3;replace u4:=bu.ad dm u4;replace u5:=bu.ad dm u5;replace u6:=bu.ad dm u6;replace u7:=bu.ad dm u7;replace u8:=bu.ad dm u8;have Ai:=bd dm bu.size;have hE:(j:Int)<c':=by omega
     have w7:(j:Int)+1≤9223372036854775807:=by have:=bk.out;omega
     generalize r.g.length=LG at*;generalize r.v.length=nVv at*;have bn:=hid c5;have ch:=hid bl;have sl:=hid gr;have HKN:=hid (aap Bm.out nv);have hkd:=YQ W_ W';have M9:=hid (zb.out r.bK);clear iW h4 mc bu gr nv c5 W_ W';go_upto_region 10 with fail
     generalize ar:wr.alloc _=bG at*;obtain⟨bX,gK⟩:=Kept.az ar;clear ar;have rG:=vp.kept bX;have lj:=(A7.out wr bl).kept bX;have MV:=(za.out wr bl).kept bX;clear u0 u1 u2 u3 u4 u5 u6 u7 u8 Ai bl;obtain⟨rA,l10⟩:=gK.p;have aG:=lj.look false Tryz.YR Tryz.YL (Tryz.Om bG) hkd;rw[M9.out]at aG;have jA:=hid (ch.out.trans (Two.iZ bX) (.inl rfl));by_cases av:r.bK∈D
     ·rw[if_pos av]at aG;simp only[if_neg (show¬(false=true) by decide),Option.getD_some]at aG;obtain⟨uh,ie⟩:=HKN.out;obtain⟨JN,df,vs,dT⟩:=rG.store Tryz.RQ Tryz.RR (by unfold maxLen;have:=bk.out;omega) ie (.bool true);have k':=hid (And.intro vs (And.intro (Sg jA.out dT) ((bn.out.put s.ag r.ag).HW (adQ sl.out av))));obtain⟨bN,h5⟩:=MV.p;clear rG vp vs dT lj ie av MV gK bX;go_wp2_with fail
      go_roundw
      case rel=>exact⟨j+1,_,by go_num,l_,k'.out.2.1,k'.out.1,k'.out.2.2⟩
      case measure=>simp[intOf];omega
     ·rw[if_neg av]at aG;simp only[if_neg (show¬(false=true) by decide),Option.getD_none]at aG;have k':=hid (And.intro rG (bn.out.HW (adP sl.out av)));clear rG vp lj av MV gK bX;go_wp2_with fail
      go_roundw
      case rel=>exact⟨j+1,G,by go_num,l_,jA.out,k'.out.1.mono (Nat.le_succ _),k'.out.2⟩
      case measure=>simp[intOf];omega
    ·obtain rfl:j=c':=by omega
     have hE:¬((j:Int)<j):=by omega
     rw[List.take_of_length_le (by rw[kR.out];exact Nat.le_refl _)]at c5;have cV:=hid (show Kf b (n+j) (tQ S s D s.rs) w (.returned (.tuple #[])) wr from⟨rfl,n+j,G,Nat.le_refl _,vp,c5,(Two.iZ gj.out).trans bl (.inl rfl)⟩);clear c5 vp bl;go_wp2_with fail
     exact bodyPost_ret (v:= .tuple #[]) (by simp[results,results47]) rfl cV.out
def RI (s:bP) (r:bf):Value:= .agg #[.string (sG s r),.string (p7 s r),r.fa,r.dH,r.dB,r.src]
def aaa (v:Value) (w:World) (e:Ending) (w':World):Prop:=e= .returned v∧Kept w w'
theorem aab (b2 bA:Value) (s:bP) (r:bf) (w:World) (bj:iH w b2 s) (aw:zy w bA r):Calls prog 31 #[b2,bA] w (aaa (RI s r) w):=by
 obtain⟨_,_,_,rfl,bC,b',sK⟩:=bj;obtain⟨gN,gS,rfl,-⟩:=bC;obtain⟨fo,fS,rfl,-,hlD,Al⟩:=b';obtain⟨eC,rc,rfl,-,B',lS⟩:=sK;obtain⟨nU,n8,rfl,ai,ay⟩:=aw;obtain⟨jg,gc,rfl,-⟩:=ai.1.at_;obtain⟨iS,gx,rfl,-⟩:=ay.1.at_;have iV:(∃d:Nat,r.bK=d∧d<s.ds.length∧∃f,s.ds[d]?=some f∧sG s r=f.ag)∨(r.bK<0∧sG s r=eP)∨(0≤r.bK∧(s.ds.length:Int)≤r.bK∧sG s r=eP):=by
  by_cases h:0≤r.bK∧r.bK<s.ds.length
  ·obtain⟨d,av⟩:=Int.eq_ofNat_of_zero_le h.1;have aq:d<s.ds.length:=by omega
   exact .inl ⟨d,av,aq,_,a8 aq,by unfold sG;rw[if_pos h,av,Int.toNat_natCast,a8 aq];rfl⟩
  ·have e:sG s r=eP:=by unfold sG;exact if_neg h
   by_cases aj:r.bK<0
   ·exact .inr (.inl ⟨aj,e⟩)
   ·exact .inr (.inr ⟨by omega,by omega,e⟩)
 have ub:(∃d:Nat,r.bD=d∧d<s.rs.length∧∃f,s.rs[d]?=some f∧p7 s r=f.ag)∨(r.bD<0∧p7 s r=eP)∨(0≤r.bD∧(s.rs.length:Int)≤r.bD∧p7 s r=eP):=by
  by_cases h:0≤r.bD∧r.bD<s.rs.length
  ·obtain⟨d,av⟩:=Int.eq_ofNat_of_zero_le h.1;have aq:d<s.rs.length:=by omega
   exact .inl ⟨d,av,aq,_,a8 aq,by unfold p7;rw[if_pos h,av,Int.toNat_natCast,a8 aq];rfl⟩
  ·have e:p7 s r=eP:=by unfold p7;exact if_neg h
   by_cases aj:r.bD<0
   ·exact .inr (.inl ⟨aj,e⟩)
   ·exact .inr (.inr ⟨by omega,by omega,e⟩)
 unfold RI;generalize sG s r=dj at*;generalize p7 s r=xl at*;generalize s.ins.length=b1 at*;generalize s.ds.length=cS at*;generalize s.rs.length=c' at*;generalize r.g.length=LG at*;generalize r.v.length=yF at*;have Bn:=hid Al;have rj:=hid lS;have HDN:=hid iV;have HPN:=hid ub;clear ai ay Al lS iV ub;go_enter func31,ntmps31
 go_upto_region 1 with fail
 generalize ar:((w.alloc _).alloc _).alloc _=W at*;obtain⟨aF,aT,bU,ec⟩:=Kept.b7 ar;clear ar;obtain⟨a1,dz⟩:=bU.p;have h5:=ec.lt;go_upto_region 2 with fail
 generalize ar:W.alloc _=V at*;obtain⟨bX,fB⟩:=Kept.az ar;clear ar;replace aT:=aT.kept bX;replace bU:=bU.kept bX;replace ec:=ec.kept bX;have bB:=aF.trans bX;clear a1 dz aF bX;generalize W.heap.size=g at*;have iP:=hid bB;obtain⟨aM,bx⟩:=aT.p;obtain⟨a1,dz⟩:=bU.p;obtain⟨bJ,dP,f5⟩:=fB.q;have hwg:w.heap.size+1+1<g:=h5;generalize r.ag=rnm at*;generalize r.bK=rdf at*;generalize r.bD=rpa at*;rcases HDN.out with⟨d,av,aq,f,bO,iV⟩|⟨aj,iV⟩|⟨aj,I,iV⟩
 case' inl=>
  subst av;obtain⟨wP,dof,rfl,pO,Ho⟩:=Bn.out (by omega);obtain⟨⟨t0,-⟩,-⟩:=Ho d f bO;unfold ed at t0;replace t0:=iP.out.ad pO t0;have aeU:=bd pO iP.out.size;have np:(d:Int)<cS:=by omega
  go_upto_region 4 with fail
  replace fB:=fB.aP 0 (.string f.ag);replace aT:=aT.far (p:=⟨g,0,none⟩) (by simp only;omega) (.string f.ag);replace bU:=bU.far (p:=⟨g,0,none⟩) (by simp only;omega) (.string f.ag);replace ec:=ec.far (p:=⟨g,0,none⟩) (by simp only;omega) (.string f.ag);have bR:=iP.out.setCell (p:=⟨g,0,none⟩) (by simp only;omega) (.string f.ag);rw[←iV]at fB aT bU ec bR;rw[←iV];generalize V.setCell ⟨g,0,none⟩ (.string dj)=X at*;simp only[List.setIfInBounds_toArray,List.set_cons_zero]at fB;clear t0 aeU np Ho bO aM a1 bJ bx dz dP f5
 case' inr.inl=>
  replace fB:ao V g 123 #[dj,.string ⟨#[]⟩,r.fa,r.dH,r.dB,r.src]:=by rw[iV];exact fB
  go_upto_region 4 with fail
  have bR:=iP.out;generalize V=X at*;clear aM a1 bJ bx dz dP f5
 case' inr.inr=>
  replace fB:ao V g 123 #[dj,.string ⟨#[]⟩,r.fa,r.dH,r.dB,r.src]:=by rw[iV];exact fB
  go_upto_region 4 with fail
  have bR:=iP.out;generalize V=X at*;clear aM a1 bJ bx dz dP f5
 all_goals
  have la:=hid bR;obtain⟨aM,bx⟩:=aT.p;obtain⟨a1,dz⟩:=bU.p;obtain⟨bJ,dP,f5⟩:=fB.q;rcases HPN.out with⟨d,av,aq,f,bO,ub⟩|⟨aj,ub⟩|⟨aj,I,ub⟩
  all_goals first
   |(have hff:=bO
     subst av;obtain⟨fz,rof,rfl,dm,iW⟩:=rj.out (by omega);obtain⟨⟨t0,-⟩,-⟩:=iW d f hff;unfold ed at t0;replace t0:=la.out.ad dm t0;have al6:=bd dm la.out.size;have np:(d:Int)<c':=by omega
     go_upto_region 6 with fail
     replace fB:=fB.aP 1 (.string f.ag);replace ec:=ec.far (p:=⟨g,1,none⟩) (by simp only;omega) (.string f.ag);have fe:=la.out.setCell (p:=⟨g,1,none⟩) (by simp only;omega) (.string f.ag);simp only[List.setIfInBounds_toArray,List.set_cons_zero,List.set_cons_succ]at fB;rw[←ub]at fB ec fe;rw[←ub];generalize X.setCell ⟨g,1,none⟩ (.string xl)=Y at*)
   |(replace fB:ao X g 123 #[dj,xl,r.fa,r.dH,r.dB,r.src]:=by rw[ub];exact fB
     go_upto_region 6 with fail
     have fe:=la.out;generalize X=Y at*)
  all_goals
   clear aM bx a1 dz bJ dP f5 iV ub;obtain⟨bJ,dP⟩:=fB.p;obtain⟨bN,h5,f4⟩:=ec.q;have bq:=hid ((((((ec.aP 0 (.string dj)).aP 1 (.string xl)).aP 2 r.fa).aP 3 r.dH).aP 4 r.dB).aP 5 (.string r.src)).cell;have nH:=hid ((((((fe.setCell (p:=⟨w.heap.size+1+1,0,none⟩) (by simp only;omega) (.string dj)).setCell (p:=⟨w.heap.size+1+1,1,none⟩) (by simp only;omega) (.string xl)).setCell (p:=⟨w.heap.size+1+1,2,none⟩) (by simp only;omega) r.fa).setCell (p:=⟨w.heap.size+1+1,3,none⟩) (by simp only;omega) r.dH).setCell (p:=⟨w.heap.size+1+1,4,none⟩) (by simp only;omega) r.dB).setCell (p:=⟨w.heap.size+1+1,5,none⟩) (by simp only;omega) (.string r.src));clear ec fB;go_wp2_with fail
   have cu:=bq.out;exact bodyPost_ret (v:= .agg #[dj,xl,r.fa,r.dH,r.dB,r.src]) (by simp[results,results31,go_sem,cu]) rfl ⟨rfl,nH.out⟩
structure k9 {α:Type} (E:α→α→Prop) (xs bh:List α):Prop where
 len:xs.length=bh.length
 all:∀(i:Nat) x y,xs[i]?=some x→bh[i]?=some y→E x y
theorem k9.eq {α:Type} {xs bh:List α} (h:k9 Eq xs bh):xs=bh:=by
 apply List.ext_getElem h.len;intro i I U;exact h.all i _ _ (a8 I) (a8 U)
theorem k9.of_eq {α:Type} {xs:List α}:k9 Eq xs xs:=⟨rfl,fun i x y I U=>by rw[I]at U;exact Option.some.inj U⟩
theorem Fl {a b:ByteArray} (h:a≠b):(a.toList==b.toList)=false:=by rw[Az];exact decide_eq_false h
theorem aiz (x y:mo) (bW CF:Value) (w:World) (br:qq w bW x.mem) (G6:qq w CF y.mem):Calls prog 42 #[.agg #[x.ag,bW],.agg #[y.ag,CF]] w (dE (x=y) w):=by
 have cv:=hid (fun w1 (h:Kept w w1)=>ael bW CF _ _ w1 (br.kept h) (G6.kept h));unfold dE at cv;obtain⟨A,c,rfl,-⟩:=br;obtain⟨nE,gf,rfl,-⟩:=G6;obtain⟨en,m1⟩:=x;obtain⟨dQ,m2⟩:=y;dsimp only at*;have bz:=hid (show en=dQ→(m1=m2↔(⟨en,m1⟩:mo)=⟨dQ,m2⟩)from fun h=>by subst h;exact⟨fun h=>by rw[h],fun h=>(mo.mk.inj h).2⟩);have bk:=hid (show en≠dQ→¬(⟨en,m1⟩:mo)=⟨dQ,m2⟩from fun h e=>h (mo.mk.inj e).1);generalize m1.length=ak at*;generalize m2.length=a' at*;generalize ((⟨en,m1⟩:mo)=⟨dQ,m2⟩)=Q at*;by_cases h:en=dQ
 case neg=>
  have aA:=hid (bk.out h);have J:=Fl h;clear h;go_enter func42,ntmps42
  go_wp2_with fail
  go_ret;exact dE.no aA.out ((by with_reducible repeat first|exact .refl _|assumption|refine .drew ?_|refine .alloc ?_ _|refine .setCell ?_ (by (try simp only);omega) _|refine .trans ?_ ‹Kept _ _›))
 have au:=hid (bz.out h);subst h;go_enter func42,ntmps42
 go_wp2_with (go_at_call 64;refine (cv.out _ ((by with_reducible repeat first|exact .refl _|assumption|refine .drew ?_|refine .alloc ?_ _|refine .setCell ?_ (by (try simp only);omega) _|refine .trans ?_ ‹Kept _ _›))).mono ?_;rintro e w1 ⟨b,rfl,J,ak⟩;have cg:=hid J;clear J)
 go_ret;exact⟨_,rfl,cg.out.trans au.out,(by with_reducible repeat first|exact .refl _|assumption|refine .drew ?_|refine .alloc ?_ _|refine .setCell ?_ (by (try simp only);omega) _|refine .trans ?_ ‹Kept _ _›)⟩
theorem aiD (x y:jm) (bW CF:Value) (w:World) (br:cH 5 jZ w bW x.rows) (G6:cH 5 jZ w CF y.rows):
  Calls prog 44 #[.agg #[x.ag,x.d_,x.eo,x.cy,x.bE,bW],.agg #[y.ag,y.d_,y.eo,y.cy,y.bE,CF]] w (dE (x=y) w):=by
 have cv:=hid (fun w1 (h:Kept w w1)=>aek bW CF _ _ w1 (br.kept jZ.kept h) (G6.kept jZ.kept h));unfold dE at cv;obtain⟨A,c,rfl,-⟩:=br;obtain⟨nE,gf,rfl,-⟩:=G6;obtain⟨en,cE,bY,aC,d1,im⟩:=x;obtain⟨dQ,a2,bc,aM,d2,i_⟩:=y;dsimp only at*;have bz:=hid (show en=dQ→cE=a2→bY=bc→aC=aM→d1=d2→(im=i_↔(⟨en,cE,bY,aC,d1,im⟩:jm)=⟨dQ,a2,bc,aM,d2,i_⟩)from fun I U ae aJ bp=>by subst I U ae aJ bp;exact⟨fun h=>by rw[h],fun h=>(jm.mk.inj h).2.2.2.2.2⟩);have bk:=hid (show¬(en=dQ∧cE=a2∧bY=bc∧aC=aM∧d1=d2)→¬(⟨en,cE,bY,aC,d1,im⟩:jm)=⟨dQ,a2,bc,aM,d2,i_⟩from fun h e=>h (by have:=jm.mk.inj e;exact⟨this.1,this.2.1,this.2.2.1,this.2.2.2.1,this.2.2.2.2.1⟩));generalize im.length=ak at*;generalize i_.length=a' at*;generalize ((⟨en,cE,bY,aC,d1,im⟩:jm)=⟨dQ,a2,bc,aM,d2,i_⟩)=Q at*;by_cases h:en=dQ
 case neg=>
  have aA:=hid (bk.out fun e=>h e.1);have J:=Fl h;clear h;go_enter func44,ntmps44
  go_wp2_with fail
  go_ret;exact dE.no aA.out ((by with_reducible repeat first|exact .refl _|assumption|refine .drew ?_|refine .alloc ?_ _|refine .setCell ?_ (by (try simp only);omega) _|refine .trans ?_ ‹Kept _ _›))
 replace bz:=hid (bz.out h);subst h;by_cases h:cE=a2
 case neg=>
  have aA:=hid (bk.out fun e=>h e.2.1);obtain⟨J,dK⟩:=fr h;clear h;go_enter func44,ntmps44
  go_wp2_with fail
  go_ret;exact dE.no aA.out ((by with_reducible repeat first|exact .refl _|assumption|refine .drew ?_|refine .alloc ?_ _|refine .setCell ?_ (by (try simp only);omega) _|refine .trans ?_ ‹Kept _ _›))
 replace bz:=hid (bz.out h);subst h;by_cases h:bY=bc
 case neg=>
  have aA:=hid (bk.out fun e=>h e.2.2.1);obtain⟨J,dK⟩:=fr h;clear h;go_enter func44,ntmps44
  go_wp2_with fail
  go_ret;exact dE.no aA.out ((by with_reducible repeat first|exact .refl _|assumption|refine .drew ?_|refine .alloc ?_ _|refine .setCell ?_ (by (try simp only);omega) _|refine .trans ?_ ‹Kept _ _›))
 replace bz:=hid (bz.out h);subst h;by_cases h:aC=aM
 case neg=>
  have aA:=hid (bk.out fun e=>h e.2.2.2.1);obtain⟨J,dK⟩:=fr h;clear h;go_enter func44,ntmps44
  go_wp2_with fail
  go_ret;exact dE.no aA.out ((by with_reducible repeat first|exact .refl _|assumption|refine .drew ?_|refine .alloc ?_ _|refine .setCell ?_ (by (try simp only);omega) _|refine .trans ?_ ‹Kept _ _›))
 replace bz:=hid (bz.out h);subst h;by_cases h:d1=d2
 case neg=>
  have aA:=hid (bk.out fun e=>h e.2.2.2.2);obtain⟨J,dK⟩:=fr h;clear h;go_enter func44,ntmps44
  go_wp2_with fail
  go_ret;exact dE.no aA.out ((by with_reducible repeat first|exact .refl _|assumption|refine .drew ?_|refine .alloc ?_ _|refine .setCell ?_ (by (try simp only);omega) _|refine .trans ?_ ‹Kept _ _›))
 replace bz:=hid (bz.out h);subst h;go_enter func44,ntmps44
 go_wp2_with (go_at_call 65;refine (cv.out _ ((by with_reducible repeat first|exact .refl _|assumption|refine .drew ?_|refine .alloc ?_ _|refine .setCell ?_ (by (try simp only);omega) _|refine .trans ?_ ‹Kept _ _›))).mono ?_;rintro e w1 ⟨b,rfl,J,ak⟩;have cg:=hid J;clear J)
 go_ret;exact⟨_,rfl,cg.out.trans bz.out,(by with_reducible repeat first|exact .refl _|assumption|refine .drew ?_|refine .alloc ?_ _|refine .setCell ?_ (by (try simp only);omega) _|refine .trans ?_ ‹Kept _ _›)⟩
theorem aiC (x y:bP) (bo b6 bA hX hQ hz:Value) (w:World) (bC:cH 3 fL w bo x.ins) (b':cH 3 fL w b6 x.ds) (aw:cH 9 mv w bA x.rs) (Wf:cH 3 fL w hX y.ins) (V5:cH 3 fL w hQ y.ds) (PC:cH 9 mv w hz y.rs):
  Calls prog 46 #[.agg #[x.ag,x.ms,bo,b6,bA],.agg #[y.ag,y.ms,hX,hQ,hz]] w (dE (lI x y) w):=by
 have Tf:=hid (fun w1 (h:Kept w w1)=>Vu bo hX _ _ w1 (bC.kept fL.kept h) (Wf.kept fL.kept h));have Td:=hid (fun w1 (h:Kept w w1)=>Vu b6 hQ _ _ w1 (b'.kept fL.kept h) (V5.kept fL.kept h));unfold dE at Tf Td;obtain⟨A,c,rfl,-⟩:=bC;obtain⟨nE,gf,rfl,-⟩:=Wf;obtain⟨D,d,rfl,-⟩:=b';obtain⟨anj,eR,rfl,-⟩:=V5;obtain⟨R,r,rfl,-⟩:=aw;obtain⟨R',oE,rfl,-⟩:=PC;have bz:=hid (show x.ag=y.ag→x.ms=y.ms→(x.ins=y.ins∧x.ds=y.ds↔lI x y)from fun I U=>⟨fun h=>⟨I,U,h.1,h.2⟩,fun h=>⟨h.ins,h.ds⟩⟩);have bk:=hid (show¬(x.ag=y.ag∧x.ms=y.ms)→¬lI x y from fun h e=>h ⟨e.ag,e.ms⟩);generalize lI x y=Q at*;generalize (x.ins=y.ins)=aO at*;generalize (x.ds=y.ds)=aN at*;generalize x.ins.length=ak at*;generalize y.ins.length=a' at*;generalize x.ds.length=bw at*;generalize y.ds.length=cG at*;generalize x.rs.length=cQ at*;generalize y.rs.length=eW at*;generalize x.ag=en at*;generalize y.ag=dQ at*;generalize x.ms=cE at*;generalize y.ms=a2 at*;by_cases h:en=dQ
 case neg=>
  have aA:=hid (bk.out fun e=>h e.1);have J:=Fl h;clear h;go_enter func46,ntmps46
  go_wp2_with fail
  go_ret;exact dE.no aA.out ((by with_reducible repeat first|exact .refl _|assumption|refine .drew ?_|refine .alloc ?_ _|refine .setCell ?_ (by (try simp only);omega) _|refine .trans ?_ ‹Kept _ _›))
 replace bz:=hid (bz.out h);subst h;by_cases h:cE=a2
 case neg=>
  have aA:=hid (bk.out fun e=>h e.2);obtain⟨J,dK⟩:=fr h;clear h;go_enter func46,ntmps46
  go_wp2_with fail
  go_ret;exact dE.no aA.out ((by with_reducible repeat first|exact .refl _|assumption|refine .drew ?_|refine .alloc ?_ _|refine .setCell ?_ (by (try simp only);omega) _|refine .trans ?_ ‹Kept _ _›))
 replace bz:=hid (bz.out h);subst h;go_enter func46,ntmps46
 go_upto_region 1 with fail
 generalize ar:(w.alloc _).alloc _=W at*;obtain⟨aW,aS,aT⟩:=Kept.a6 ar;clear ar;obtain⟨dq,a7⟩:=aS.p;obtain⟨dR,bx⟩:=aT.p;go_wp2_with (first
  |(go_at_call_of 66 (Value.slice A ak c);refine (Tf.out _ aW).mono ?_;rintro e w1 ⟨b,rfl,J,ak⟩;have cg:=hid J;clear J;have fc:=aS.kept ak;have cm:=aT.kept ak;clear dq dR a7 bx;have dq:=fc.cell;have dR:=cm.cell;have a7:=fc.lt;have bx:=cm.lt;cases b)
  |(go_at_call_of 66 (Value.slice D bw d);refine (Td.out _ (aW.trans ak)).mono ?_;rintro e w2 ⟨b,rfl,J,a'⟩;have dr:=hid J;clear J))
 ·go_ret;exact⟨_,rfl,⟨fun h=>absurd h (by simp),fun h=>absurd (cg.out.2 (bz.out.2 h).1) (by simp)⟩,aW.trans ak⟩
 ·go_ret;exact⟨_,rfl,⟨fun h=>bz.out.1 ⟨cg.out.1 (by simp),dr.out.1 h⟩,fun h=>dr.out.2 (bz.out.2 h).2⟩,(aW.trans ak).trans a'⟩
theorem aef (e_ fm:Value) (xs bh:List mo) (w:World) (aZ:cH 2 n_ w e_ xs) (J:cH 2 n_ w fm bh):
  Calls prog 41 #[e_,fm,.func (.func 42) #[] #[]] w (dE (k9 Eq xs bh) w):=by
 obtain⟨A,oo,rfl,-,af,aK⟩:=aZ;obtain⟨B,qw,rfl,-,-,aU⟩:=J;by_cases aq:xs.length=bh.length
 ·obtain⟨n,fj⟩:∃n,n=xs.length:=⟨_,rfl⟩;have jL:n=bh.length:=fj.trans aq;rw[←fj]at aK af⊢;rw[←jL]at aU⊢;have bn:=hid fj;have hM:=hid jL;obtain⟨Q,cJ⟩:∃Q,Q=k9 Eq xs bh:=⟨_,rfl⟩;rw[←cJ];have dX:=hid (fun (i:Nat) (x y:mo) (I:xs[i]?=some x) (U:bh[i]?=some y) (h:¬Eq x y)=>(show¬Q from fun q=>h ((cJ▸q:k9 Eq xs bh).all i x y I U)));have xP:=hid (fun (h:∀(i:Nat) x y,i<n→xs[i]?=some x→bh[i]?=some y→Eq x y)=>(show Q from cJ▸⟨aq,fun i x y I U=>h i x y (by rw[fj];exact (b8 I).1) I U⟩));clear fj jL aq cJ;go_enter func41,ntmps41
  go_wp2_with fail
  go_loopw [17] (fun z wr=>∃i:Nat,i≤n∧z= .int .i64 i∧Kept w wr∧∀(k:Nat) x y,k<i→xs[k]?=some x→bh[k]?=some y→Eq x y) (fun z _=>(n-intOf z).toNat)
  case atStart=>exact⟨0,Nat.zero_le _,rfl,aQ _,fun _ _ _ h=>absurd h (Nat.not_lt_zero _)⟩
  case round=>
   obtain⟨i,de,rfl,ab,aG⟩:=hrel;have dd:=hid aG;clear aG;by_cases hp:i<n
   ·obtain⟨bY,jv,rfl,ea,cx⟩:=aK (by omega);obtain⟨bc,k4,rfl,dK,fE⟩:=aU (by omega);have e2:xs[i]?=some (xs[i]'(by have:=bn.out;omega)):=a8 _;have dT:bh[i]?=some (bh[i]'(by have:=hM.out;omega)):=a8 _;obtain⟨⟨dL,-⟩,⟨pv1,dq,Z5⟩⟩:=cx i _ e2;obtain⟨⟨eb,-⟩,⟨qv1,aO,qh1⟩⟩:=fE i _ dT;have bk:=hid (dX.out i _ _ e2 dT);have cp:=hid (fun (h:Eq (xs[i]'(by have:=bn.out;omega)) (bh[i]'(by have:=hM.out;omega)))=>(show∀(k:Nat) x y,k<i+1→xs[k]?=some x→bh[k]?=some y→Eq x y from fun k x y aa I U=>by
     rcases Nat.lt_succ_iff_lt_or_eq.1 aa with g|rfl
     ·exact dd.out k x y g I U
     ·have az:=e2.symm.trans I;have a6:=dT.symm.trans U
      cases az
      cases a6;exact h))
    clear cx fE aK aU e2 dT dX;generalize xs[i]'(by have:=bn.out;omega)=X at*;generalize bh[i]'(by have:=hM.out;omega)=Y at*;have gE:=bd ea ab.size;have gh:=bd dK ab.size;have cD:=hid (fun w1 (h:Kept w w1)=>aiz X Y pv1 qv1 w1 (Z5.kept h) (qh1.kept h));unfold dE at cD;obtain⟨pA1,pc1,rfl,-⟩:=Z5;obtain⟨qA1,qc1,rfl,-⟩:=qh1;unfold ed at dL eb dq aO;replace dL:=ab.ad ea dL;replace eb:=ab.ad dK eb;replace dq:=ab.ad ea dq;replace aO:=ab.ad dK aO;generalize X.mem.length=pn1 at*;generalize Y.mem.length=qn1 at*;generalize aX:Eq X Y=T' at*;clear aX;generalize X.ag=Uj at*;generalize Y.ag=Uk at*;have rQ:(i:Int)<n:=by omega
    go_upto_region 6 with fail
    generalize ar:wr.alloc _=V at*;obtain⟨bX,cl⟩:=Kept.az ar;clear ar;replace eb:=bX.ad gh eb;replace aO:=bX.ad gh aO;clear dL dq;have QG:=bd gh bX.size;generalize wr.heap.size=g1 at*;go_upto_region 7 with fail
    generalize ar:V.alloc _=bG at*;obtain⟨fq,aT⟩:=Kept.az ar;clear ar;have eY:=bX.trans fq;have aS:=cl.kept fq;clear eb aO cl;clear fq;obtain⟨im,a7⟩:=aS.p;obtain⟨i_,bx⟩:=aT.p;have al:=hid (ab.trans eY);have m_:=hid (ab.trans eY);go_upto_if 30 with (go_at_call 42;refine (cD.out _ m_.out).mono ?_;rintro e cw ⟨b,rfl,J,bw⟩;have cg:=hid J;clear J;cases b)
    ·have aA:=hid (bk.out (fun q=>by have:=cg.out.2 q;cases this));go_wp2_with fail
     go_ret;exact dE.no aA.out (m_.out.trans bw)
    ·have aA:=hid (cp.out (cg.out.1 (by simp)));go_wp2_with fail
     go_roundw
     case rel=>exact⟨i+1,hp,by go_num,m_.out.trans bw,aA.out⟩
     case measure=>simp only[intOf];omega
   ·have rQ:¬((i:Int)<n):=by omega
    obtain rfl:i=n:=by omega
    go_wp2_with fail
    go_ret;exact dE.yes (xP.out dd.out) ab
 ·have bk:=hid (fun e:k9 Eq xs bh=>aq e.len);have pP:((xs.length:Int) !=bh.length)=true:=(fr (by omega)).2;clear aq aK aU;go_enter func41,ntmps41
  go_wp2_with fail
  go_ret;exact dE.no bk.out (aQ _)
theorem aeh (e_ fm:Value) (xs bh:List jm) (w:World) (aZ:cH 6 kU w e_ xs) (J:cH 6 kU w fm bh):
  Calls prog 43 #[e_,fm,.func (.func 44) #[] #[]] w (dE (k9 Eq xs bh) w):=by
 obtain⟨A,oo,rfl,-,af,aK⟩:=aZ;obtain⟨B,qw,rfl,-,-,aU⟩:=J;by_cases aq:xs.length=bh.length
 ·obtain⟨n,fj⟩:∃n,n=xs.length:=⟨_,rfl⟩;have jL:n=bh.length:=fj.trans aq;rw[←fj]at aK af⊢;rw[←jL]at aU⊢;have bn:=hid fj;have hM:=hid jL;obtain⟨Q,cJ⟩:∃Q,Q=k9 Eq xs bh:=⟨_,rfl⟩;rw[←cJ];have dX:=hid (fun (i:Nat) (x y:jm) (I:xs[i]?=some x) (U:bh[i]?=some y) (h:¬Eq x y)=>(show¬Q from fun q=>h ((cJ▸q:k9 Eq xs bh).all i x y I U)));have xP:=hid (fun (h:∀(i:Nat) x y,i<n→xs[i]?=some x→bh[i]?=some y→Eq x y)=>(show Q from cJ▸⟨aq,fun i x y I U=>h i x y (by rw[fj];exact (b8 I).1) I U⟩));clear fj jL aq cJ;go_enter func43,ntmps43
  go_wp2_with fail
  go_loopw [17] (fun z wr=>∃i:Nat,i≤n∧z= .int .i64 i∧Kept w wr∧∀(k:Nat) x y,k<i→xs[k]?=some x→bh[k]?=some y→Eq x y) (fun z _=>(n-intOf z).toNat)
  case atStart=>exact⟨0,Nat.zero_le _,rfl,aQ _,fun _ _ _ h=>absurd h (Nat.not_lt_zero _)⟩
  case round=>
   obtain⟨i,de,rfl,ab,aG⟩:=hrel;have dd:=hid aG;clear aG;by_cases hp:i<n
   ·obtain⟨bY,jv,rfl,ea,cx⟩:=aK (by omega);obtain⟨bc,k4,rfl,dK,fE⟩:=aU (by omega);have e2:xs[i]?=some (xs[i]'(by have:=bn.out;omega)):=a8 _;have dT:bh[i]?=some (bh[i]'(by have:=hM.out;omega)):=a8 _;obtain⟨⟨dL,-⟩,⟨dq,-⟩,⟨dR,-⟩,⟨fU,-⟩,⟨jN,-⟩,⟨pv5,AD,Z9⟩⟩:=cx i _ e2;obtain⟨⟨eb,-⟩,⟨aO,-⟩,⟨aN,-⟩,⟨cK,-⟩,⟨dA,-⟩,⟨qv5,p9,qh5⟩⟩:=fE i _ dT;have bk:=hid (dX.out i _ _ e2 dT);have cp:=hid (fun (h:Eq (xs[i]'(by have:=bn.out;omega)) (bh[i]'(by have:=hM.out;omega)))=>(show∀(k:Nat) x y,k<i+1→xs[k]?=some x→bh[k]?=some y→Eq x y from fun k x y aa I U=>by
     rcases Nat.lt_succ_iff_lt_or_eq.1 aa with g|rfl
     ·exact dd.out k x y g I U
     ·have az:=e2.symm.trans I;have a6:=dT.symm.trans U
      cases az
      cases a6;exact h))
    clear cx fE aK aU e2 dT dX;generalize xs[i]'(by have:=bn.out;omega)=X at*;generalize bh[i]'(by have:=hM.out;omega)=Y at*;have gE:=bd ea ab.size;have gh:=bd dK ab.size;have cD:=hid (fun w1 (h:Kept w w1)=>aiD X Y pv5 qv5 w1 (Z9.kept jZ.kept h) (qh5.kept jZ.kept h));unfold dE at cD;obtain⟨pA5,pc5,rfl,-⟩:=Z9;obtain⟨qA5,qc5,rfl,-⟩:=qh5;unfold ed at dL eb dq aO dR aN fU cK jN dA AD p9;replace dL:=ab.ad ea dL;replace eb:=ab.ad dK eb;replace dq:=ab.ad ea dq;replace aO:=ab.ad dK aO;replace dR:=ab.ad ea dR;replace aN:=ab.ad dK aN;replace fU:=ab.ad ea fU;replace cK:=ab.ad dK cK;replace jN:=ab.ad ea jN;replace dA:=ab.ad dK dA;replace AD:=ab.ad ea AD;replace p9:=ab.ad dK p9;generalize X.rows.length=pn5 at*;generalize Y.rows.length=qn5 at*;generalize aX:Eq X Y=T' at*;clear aX;generalize X.ag=Uj at*;generalize X.d_=Xkk at*;generalize X.eo=Xke at*;generalize X.cy=Xvk at*;generalize X.bE=Xve at*;generalize Y.ag=Uk at*;generalize Y.d_=Ykk at*;generalize Y.eo=Yke at*;generalize Y.cy=Yvk at*;generalize Y.bE=Yve at*;have rQ:(i:Int)<n:=by omega
    go_upto_region 6 with fail
    generalize ar:wr.alloc _=V at*;obtain⟨bX,cl⟩:=Kept.az ar;clear ar;replace eb:=bX.ad gh eb;replace aO:=bX.ad gh aO;replace aN:=bX.ad gh aN;replace cK:=bX.ad gh cK;replace dA:=bX.ad gh dA;replace p9:=bX.ad gh p9;clear dL dq dR fU jN AD;have QG:=bd gh bX.size;generalize wr.heap.size=g1 at*;go_upto_region 7 with fail
    generalize ar:V.alloc _=bG at*;obtain⟨fq,aT⟩:=Kept.az ar;clear ar;have eY:=bX.trans fq;have aS:=cl.kept fq;clear eb aO aN cK dA p9 cl;clear fq;obtain⟨im,a7⟩:=aS.p;obtain⟨i_,bx⟩:=aT.p;have al:=hid (ab.trans eY);have m_:=hid (ab.trans eY);go_upto_if 30 with (go_at_call 44;refine (cD.out _ m_.out).mono ?_;rintro e cw ⟨b,rfl,J,bw⟩;have cg:=hid J;clear J;cases b)
    ·have aA:=hid (bk.out (fun q=>by have:=cg.out.2 q;cases this));go_wp2_with fail
     go_ret;exact dE.no aA.out (m_.out.trans bw)
    ·have aA:=hid (cp.out (cg.out.1 (by simp)));go_wp2_with fail
     go_roundw
     case rel=>exact⟨i+1,hp,by go_num,m_.out.trans bw,aA.out⟩
     case measure=>simp only[intOf];omega
   ·have rQ:¬((i:Int)<n):=by omega
    obtain rfl:i=n:=by omega
    go_wp2_with fail
    go_ret;exact dE.yes (xP.out dd.out) ab
 ·have bk:=hid (fun e:k9 Eq xs bh=>aq e.len);have pP:((xs.length:Int) !=bh.length)=true:=(fr (by omega)).2;clear aq aK aU;go_enter func43,ntmps43
  go_wp2_with fail
  go_ret;exact dE.no bk.out (aQ _)
theorem aeg (e_ fm:Value) (xs bh:List bP) (w:World) (aZ:cH 5 sA w e_ xs) (J:cH 5 sA w fm bh):
  Calls prog 45 #[e_,fm,.func (.func 46) #[] #[]] w (dE (k9 lI xs bh) w):=by
 obtain⟨A,oo,rfl,-,af,aK⟩:=aZ;obtain⟨B,qw,rfl,-,-,aU⟩:=J;by_cases aq:xs.length=bh.length
 ·obtain⟨n,fj⟩:∃n,n=xs.length:=⟨_,rfl⟩;have jL:n=bh.length:=fj.trans aq;rw[←fj]at aK af⊢;rw[←jL]at aU⊢;have bn:=hid fj;have hM:=hid jL;obtain⟨Q,cJ⟩:∃Q,Q=k9 lI xs bh:=⟨_,rfl⟩;rw[←cJ];have dX:=hid (fun (i:Nat) (x y:bP) (I:xs[i]?=some x) (U:bh[i]?=some y) (h:¬lI x y)=>(show¬Q from fun q=>h ((cJ▸q:k9 lI xs bh).all i x y I U)));have xP:=hid (fun (h:∀(i:Nat) x y,i<n→xs[i]?=some x→bh[i]?=some y→lI x y)=>(show Q from cJ▸⟨aq,fun i x y I U=>h i x y (by rw[fj];exact (b8 I).1) I U⟩));clear fj jL aq cJ;go_enter func45,ntmps45
  go_wp2_with fail
  go_loopw [17] (fun z wr=>∃i:Nat,i≤n∧z= .int .i64 i∧Kept w wr∧∀(k:Nat) x y,k<i→xs[k]?=some x→bh[k]?=some y→lI x y) (fun z _=>(n-intOf z).toNat)
  case atStart=>exact⟨0,Nat.zero_le _,rfl,aQ _,fun _ _ _ h=>absurd h (Nat.not_lt_zero _)⟩
  case round=>
   obtain⟨i,de,rfl,ab,aG⟩:=hrel;have dd:=hid aG;clear aG;by_cases hp:i<n
   ·obtain⟨bY,jv,rfl,ea,cx⟩:=aK (by omega);obtain⟨bc,k4,rfl,dK,fE⟩:=aU (by omega);have e2:xs[i]?=some (xs[i]'(by have:=bn.out;omega)):=a8 _;have dT:bh[i]?=some (bh[i]'(by have:=hM.out;omega)):=a8 _;obtain⟨⟨dL,-⟩,⟨dq,-⟩,⟨pv2,dR,Z6⟩,⟨pv3,fU,Z7⟩,⟨pv4,jN,Z8⟩⟩:=cx i _ e2;obtain⟨⟨eb,-⟩,⟨aO,-⟩,⟨qv2,aN,qh2⟩,⟨qv3,cK,qh3⟩,⟨qv4,dA,qh4⟩⟩:=fE i _ dT;have bk:=hid (dX.out i _ _ e2 dT);have cp:=hid (fun (h:lI (xs[i]'(by have:=bn.out;omega)) (bh[i]'(by have:=hM.out;omega)))=>(show∀(k:Nat) x y,k<i+1→xs[k]?=some x→bh[k]?=some y→lI x y from fun k x y aa I U=>by
     rcases Nat.lt_succ_iff_lt_or_eq.1 aa with g|rfl
     ·exact dd.out k x y g I U
     ·have az:=e2.symm.trans I;have a6:=dT.symm.trans U
      cases az
      cases a6;exact h))
    clear cx fE aK aU e2 dT dX;generalize xs[i]'(by have:=bn.out;omega)=X at*;generalize bh[i]'(by have:=hM.out;omega)=Y at*;have gE:=bd ea ab.size;have gh:=bd dK ab.size;have cD:=hid (fun w1 (h:Kept w w1)=>aiC X Y pv2 pv3 pv4 qv2 qv3 qv4 w1 (Z6.kept fL.kept h) (Z7.kept fL.kept h) (Z8.kept mv.kept h) (qh2.kept fL.kept h) (qh3.kept fL.kept h) (qh4.kept mv.kept h));unfold dE at cD;obtain⟨pA2,pc2,rfl,-⟩:=Z6;obtain⟨pA3,pc3,rfl,-⟩:=Z7;obtain⟨pA4,pc4,rfl,-⟩:=Z8;obtain⟨qA2,qc2,rfl,-⟩:=qh2;obtain⟨qA3,qc3,rfl,-⟩:=qh3;obtain⟨qA4,qc4,rfl,-⟩:=qh4;unfold ed at dL eb dq aO dR aN fU cK jN dA;replace dL:=ab.ad ea dL;replace eb:=ab.ad dK eb;replace dq:=ab.ad ea dq;replace aO:=ab.ad dK aO;replace dR:=ab.ad ea dR;replace aN:=ab.ad dK aN;replace fU:=ab.ad ea fU;replace cK:=ab.ad dK cK;replace jN:=ab.ad ea jN;replace dA:=ab.ad dK dA;generalize X.ins.length=pn2 at*;generalize X.ds.length=pn3 at*;generalize X.rs.length=pn4 at*;generalize Y.ins.length=qn2 at*;generalize Y.ds.length=qn3 at*;generalize Y.rs.length=qn4 at*;generalize aX:lI X Y=T' at*;clear aX;generalize X.ag=Uj at*;generalize X.ms=Xms at*;generalize Y.ag=Uk at*;generalize Y.ms=Yms at*;have rQ:(i:Int)<n:=by omega
    go_upto_region 6 with fail
    generalize ar:wr.alloc _=V at*;obtain⟨bX,cl⟩:=Kept.az ar;clear ar;replace eb:=bX.ad gh eb;replace aO:=bX.ad gh aO;replace aN:=bX.ad gh aN;replace cK:=bX.ad gh cK;replace dA:=bX.ad gh dA;clear dL dq dR fU jN;have QG:=bd gh bX.size;generalize wr.heap.size=g1 at*;go_upto_region 7 with fail
    generalize ar:V.alloc _=bG at*;obtain⟨fq,aT⟩:=Kept.az ar;clear ar;have eY:=bX.trans fq;have aS:=cl.kept fq;clear eb aO aN cK dA cl;clear fq;obtain⟨im,a7⟩:=aS.p;obtain⟨i_,bx⟩:=aT.p;have al:=hid (ab.trans eY);have m_:=hid (ab.trans eY);go_upto_if 30 with (go_at_call 46;refine (cD.out _ m_.out).mono ?_;rintro e cw ⟨b,rfl,J,bw⟩;have cg:=hid J;clear J;cases b)
    ·have aA:=hid (bk.out (fun q=>by have:=cg.out.2 q;cases this));go_wp2_with fail
     go_ret;exact dE.no aA.out (m_.out.trans bw)
    ·have aA:=hid (cp.out (cg.out.1 (by simp)));go_wp2_with fail
     go_roundw
     case rel=>exact⟨i+1,hp,by go_num,m_.out.trans bw,aA.out⟩
     case measure=>simp only[intOf];omega
   ·have rQ:¬((i:Int)<n):=by omega
    obtain rfl:i=n:=by omega
    go_wp2_with fail
    go_ret;exact dE.yes (xP.out dd.out) ab
 ·have bk:=hid (fun e:k9 lI xs bh=>aq e.len);have pP:((xs.length:Int) !=bh.length)=true:=(fr (by omega)).2;clear aq aK aU;go_enter func45,ntmps45
  go_wp2_with fail
  go_ret;exact dE.no bk.out (aQ _)
theorem aiA (e_ fm:Value) (a b:cZ) (w:World) (aZ:gy w e_ a) (J:gy w fm b):Calls prog 25 #[e_,fm] w (dE (vb a b) w):=by
 obtain⟨c_,b4,b2,rfl,aj,I,U⟩:=aZ;obtain⟨Vw,yS,sv',rfl,g0,g1,g2⟩:=J;have cv:=hid (fun w1 (h:Kept w w1)=>aef c_ Vw _ _ w1 (aj.kept n_.kept h) (g0.kept n_.kept h));have ch:=hid (fun w1 (h:Kept w w1)=>aeh b4 yS _ _ w1 (I.kept kU.kept h) (g1.kept kU.kept h));have cD:=hid (fun w1 (h:Kept w w1)=>aeg b2 sv' _ _ w1 (U.kept sA.kept h) (g2.kept sA.kept h));unfold dE at cv ch cD;obtain⟨IU,b5,rfl,-⟩:=aj;obtain⟨cl,aC,rfl,-⟩:=I;obtain⟨cM,aM,rfl,-⟩:=U;obtain⟨cX,a1,rfl,-⟩:=g0;obtain⟨ef,bN,rfl,-⟩:=g1;obtain⟨dk,bJ,rfl,-⟩:=g2;have hM:=hid (show k9 Eq a.bm b.bm∧k9 Eq a.tb b.tb∧k9 lI a.sc b.sc↔vb a b from⟨fun h=>⟨h.1.eq,h.2.1.eq,h.2.2.len,h.2.2.all⟩,fun h=>⟨by rw[h.bm];exact k9.of_eq,by rw[h.tb];exact k9.of_eq,⟨h.len,h.sc⟩⟩⟩);generalize k9 Eq a.bm b.bm=aO at*;generalize k9 Eq a.tb b.tb=aN at*;generalize k9 lI a.sc b.sc=cK at*;generalize vb a b=Q at*;generalize a.bm.length=hY at*;generalize a.tb.length=en at*;generalize a.sc.length=dQ at*;generalize b.bm.length=iC at*;generalize b.tb.length=qQ at*;generalize b.sc.length=uk at*;go_enter func25,ntmps25
 go_upto_region 1 with fail
 generalize ar:(w.alloc _).alloc _=W at*;obtain⟨aW,aS,aT⟩:=Kept.a6 ar;clear ar;obtain⟨dq,a7⟩:=aS.p;obtain⟨dR,bx⟩:=aT.p;go_wp2_with (first
  |(go_at_call 41;refine (cv.out _ aW).mono ?_;rintro e w1 ⟨b,rfl,J,ak⟩;have dD:=hid J;clear J;have fc:=aS.kept ak;have cm:=aT.kept ak;clear dq dR a7 bx;have dq:=fc.cell;have dR:=cm.cell;have a7:=fc.lt;have bx:=cm.lt;cases b)
  |(go_at_call 43;refine (ch.out _ (aW.trans ak)).mono ?_;rintro e w2 ⟨b,rfl,J,a'⟩;have dr:=hid J;clear J;have cr:=fc.kept a';have c2:=cm.kept a';clear dq dR a7 bx;have dq:=cr.cell;have dR:=c2.cell;have a7:=cr.lt;have bx:=c2.lt;cases b)
  |(go_at_call 45;refine (cD.out _ ((aW.trans ak).trans a')).mono ?_;rintro e cw ⟨b,rfl,J,bw⟩;have ji:=hid J;clear J))
 ·go_ret;exact⟨_,rfl,⟨fun h=>absurd h (by simp),fun h=>absurd (dD.out.2 (hM.out.2 h).1) (by simp)⟩,aW.trans ak⟩
 ·go_ret;exact⟨_,rfl,⟨fun h=>absurd h (by simp),fun h=>absurd (dr.out.2 (hM.out.2 h).2.1) (by simp)⟩,(aW.trans ak).trans a'⟩
 ·go_ret;exact⟨_,rfl,⟨fun h=>hM.out.1 ⟨dD.out.1 (by simp),dr.out.1 (by simp),ji.out.1 h⟩,fun h=>ji.out.2 (hM.out.2 h).2.2⟩,((aW.trans ak).trans a').trans bw⟩
end Go.Proofs.YtobpgndkciofhaaGreatDoor
