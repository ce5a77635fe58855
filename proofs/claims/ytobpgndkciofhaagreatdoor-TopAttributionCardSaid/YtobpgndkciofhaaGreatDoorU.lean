import Derived.Test.YtobpgndkciofhaaGreatDoorT
set_option linter.all false
namespace Go.Proofs.YtobpgndkciofhaaGreatDoor
open Go.RowKit Go.Proofs.Tryz
open Go.Lib (hid)
set_option maxRecDepth 100000
set_option maxHeartbeats 8000000
theorem Tryz.YT:(prog.info? 92).map (fun i=>(i.zero,i.size,i.bytes))=some (some (.slice none 0 0),1,24):=by kernel_rfl
theorem Vk (n:Nat) (r:bf) (I:r.g.length≤48) (U:r.v.length≤48):(tR n r).length≤96:=by
 unfold tR;rw[List.length_append];have cE:=List.length_filter_le (j3 n) (fl (i' r.g));have a2:=List.length_filter_le (j3 n) (fl (i' r.v));have bY:=yQ (i' r.g);have bc:=yQ (i' r.v);have aC:=L' r.g;have aM:=L' r.v;omega
theorem cn.kH {w w':World} {B:Nat} {v:Value} {l:List Int} (h:cn w B v l) (aa:Kept w w'):cn w' B v l:=by
 refine⟨h.1,?_⟩;rcases h.2 with U|⟨g,cap,cur,ay,J,ai,ae⟩
 ·exact .inl U
 ·have aJ:ao w g 3 cur:=ai;exact .inr ⟨g,cap,cur,ay,J,aJ.kept aa,ae⟩
theorem E9 {w:World} {B g:Nat} {v:Value} {l:List Int} (h:cn w B v l) (e:v.ownBlock=some g):g<w.heap.size:=by
 rcases h.2 with⟨U,_⟩|⟨hR,cap,cur,ay,J,ai,ae⟩
 ·rw[U]at e;cases e
 ·rw[ay]at e;obtain rfl:hR=g:=Option.some.inj e;exact (Array.getElem?_eq_some_iff.1 ai).1
theorem aaM {ops:Array Oper} {E:Prop} {o:Oper} {a:Act} {K:Act→World→Prop} {Q:Exit→Act→World→Prop} {w:World} (ai:o.guard=none) (s x:Operand)
  (aL:o.op= .call {callee:= .builtin .append,args:=#[s,x],argTypes:=#[92,92]}) {base:Nat} {v:Value} {xs:List Int} (ax:a.eval s=v) (ar:cn w base v xs) {q2:Value} {bh:List Int} (af:a.eval x=q2) (vt:fC w q2 bh)
  (aq:xs.length+bh.length≤2000000) (J:base≤w.heap.size) (h:∀v' w',cn w' base v' (xs++bh)→w.grownBy w' v.ownBlock→(v'.ownBlock=v.ownBlock∨v'.ownBlock=some w.heap.size)→K (a.put o.dst v') w'):
  if Region.wanted o (yielded ops a.tmps)=true then o.wp prog a w K Q else E:=by
 rw[if_pos (by simp[Region.wanted,ai])];exact abn s x aL ax ar af vt aq J h
theorem lf.low {w:World} {B uL G:Nat} {us:List Value} {ls:List (List Int)} (h:lf w B G us ls) (aU:uL≤B):lf w uL G us ls:=⟨h.fD,h.len,fun d u l hu aq=>(h.own d u l hu aq).low aU,h.ap,h.far⟩
theorem Zj {w w1:World} {n:Nat} (cR:w1.ownsRow w.heap.size 92 1 (.slice (some ⟨w.heap.size,0,none⟩) n n) n (madeCells (Value.slice none 0 0).cells (n*1)).toList) (cd:w.grownBy w1 none):
  lf w1 w.heap.size w.heap.size (List.replicate n (.slice none 0 0)) (List.replicate n [])∧Kept w w1:=by
 have e:=toList_madeCells_one (Value.slice none 0 0) (n*1);rw[show (Value.slice none 0 0).cells=#[Value.slice none 0 0]from rfl,e]at cR;have h:=J2 cR (by simp);rw[Nat.mul_one]at h;refine⟨⟨h,by simp,fun d u l hu aq=> ?_,fun d eR u km _ hu _=> ?_,fun d u hu=> ?_⟩,⟨cd.os,cd.tape,cd.output,cd.size,fun b J=>cd.block b J (by simp)⟩⟩
 ·rw[List.getElem?_replicate]at hu aq;split at hu
  ·rw[if_pos (by assumption)]at aq
   cases hu;cases aq;exact World.ownsRow_nil _ _ _ _
  ·cases hu
 ·rw[List.getElem?_replicate]at hu;split at hu
  ·cases hu;exact h8.nil _
  ·cases hu
 ·rw[List.getElem?_replicate]at hu;split at hu
  ·cases hu;intro h;cases h
  ·cases hu
def ach (n:Nat) (rs:List bf) (w:World) (e:Ending) (w':World):Prop:=∃G us,e= .returned (.slice (some ⟨G,0,none⟩) n n)∧lf w' w.heap.size G us (gg n rs)∧w.heap.size≤G∧Kept w w'
def pB (rs:List bf):Prop:=rs.length≤1000∧∀r∈rs,r.g.length≤48∧r.v.length≤48
theorem Oc (v:Value) (x:bP) (w:World) (bj:iH w v x) (aw:pB x.rs) (aA:x.ds.length≤1000):Calls prog 52 #[v] w (ach x.ds.length x.rs w):=by
 obtain⟨bo,b6,bA,rfl,bC,b',nn⟩:=bj;obtain⟨gN,gS,rfl,-⟩:=bC;obtain⟨fo,fS,rfl,-⟩:=b';obtain⟨eC,rc,rfl,-,ud,oA⟩:=nn;obtain⟨n0,ig⟩:=aw;generalize x.rs=rs at*;generalize x.ds.length=n at*;obtain⟨i0,aE,fy,cb,eu⟩:=info_parts Tryz.YT;have lb:=hid oA;have iu:=hid ig;have oz:(n:Int)≤1000:=by omega
 clear oA ig;go_enter func52,ntmps52
 go_upto_region 1 with fail
 generalize ar:w.alloc _=W at*;obtain⟨aF,a_⟩:=Kept.az ar;clear ar;obtain⟨dL,cA⟩:=a_.p;go_upto_region 3 with (at_make;refine wpList_make_full _ rfl _ _ 149 rfl W.heap.size 92 i0 aR 1 underlying149 aE fy cb _ _ _ _ n rfl rfl rfl rfl (by rw[eu];omega) (by unfold maxLen;omega) (Nat.le_refl _) ?_;intro w1 cR cd;have cp:=hid (Zj cR cd);clear cR cd;have aS:=a_.kept cp.out.2;have eb:=aS.cell;have an3:=aS.lt)
 have bB:=aF.trans cp.out.2;clear dL cA;have ar:w.heap.size<W.heap.size:=a_.lt;obtain⟨T,bl⟩:∃T,T=ry n rs (List.replicate n []):=⟨_,rfl⟩;have ch:=hid (show ry n (rs.drop 0) (List.replicate n [])=T from bl.symm);have cB:=hid (show gg n rs=T.map fl by rw[bl];rfl);clear bl;go_loopw [15] (fun y wr=>∃(i:Nat) (us:List Value) (a:List (List Int)),y= .int .i64 i∧i≤rs.length∧lf wr W.heap.size W.heap.size us a∧a.length=n∧(∀l∈a,l.length≤96*i)∧ry n (rs.drop i) a=T∧Kept W wr) (fun y _=>(rs.length-intOf y).toNat)
 case atStart=>exact⟨0,_,_,rfl,Nat.zero_le _,cp.out.1,List.length_replicate ..,fun l aq=>by rw[(List.mem_replicate.1 aq).2];exact Nat.zero_le _,ch.out,cp.out.2⟩
 case round=>
  obtain⟨i,us,a,rfl,de,sU,js,lk,aG,ab⟩:=hrel;by_cases aD:i<rs.length
  ·obtain⟨fz,ro,rfl,dm,iW⟩:=lb.out (by omega);have ai:rs[i]?=some (rs[i]'aD):=a8 _;have rM:=List.getElem_mem aD;obtain⟨⟨b5,-⟩,⟨aC,-⟩,⟨aM,-⟩,⟨a1,-⟩,⟨bN,-⟩,⟨bJ,-⟩,⟨nU,eQ,h4⟩,⟨n8,kv,mc⟩,⟨kx,-⟩⟩:=iW i _ ai;rw[List.drop_eq_getElem_cons aD,ry]at aG;obtain⟨z8,Cq⟩:=iu.out _ rM;generalize rs[i]'aD=r at*;obtain⟨jg,gc,rfl,-⟩:=h4.1.at_;obtain⟨iS,gx,rfl,-⟩:=mc.1.at_;unfold ed at b5 aC aM a1 bN bJ eQ kv kx;have al:=aF.trans ab;have hJ:=al.ad dm b5;have fc:=al.ad dm aC;have cm:=al.ad dm aM;have dx:=al.ad dm a1;have qb:=al.ad dm bN;have FE:=al.ad dm bJ;have y6:=al.ad dm eQ;have uM:=al.ad dm kv;have oN:=al.ad dm kx;have X1:=bd dm al.size;have c6:(i:Int)<rs.length:=by omega
   have NI:=hid (show zy w (.agg #[r.ag,r.bK,r.bD,r.fa,r.dH,r.dB,.slice jg r.g.length gc,.slice iS r.v.length gx,r.src]) r from⟨_,_,rfl,h4,mc⟩);have Dd:=hid sU;have du:=hid ab;have dd:=hid aG;have tk:=hid lk;clear b5 aC aM a1 bN bJ eQ kv kx h4 mc iW ai sU ab al aG lk;go_upto_region 5 with fail
   generalize ar:wr.alloc _=e8 at*;obtain⟨bR,aT⟩:=Kept.az ar;clear ar;have dL:=aT.cell 0;have dq:=aT.cell 1;have dR:=aT.cell 2;have fU:=aT.cell 3;have jN:=aT.cell 4;have AD:=aT.cell 5;have LY:=aT.cell 6;have RE:=aT.cell 7;have anW:=aT.cell 8;have bx:=aT.lt;simp only[List.getElem?_toArray,List.getElem?_cons_zero,List.getElem?_cons_succ]at dL dq dR fU jN AD LY RE anW;clear hJ fc cm dx qb FE y6 uM oN;by_cases av:0≤r.bK∧r.bK<n
   ·obtain⟨dj,iV⟩:∃dj:Nat,r.bK=dj:=⟨r.bK.toNat,by omega⟩;have np:dj<n:=by omega
    have eF:=Dd.out.kept bR;have QC:dj<us.length:=by rw[eF.len,js];exact np
    have HP:dj<a.length:=by rw[js];exact np
    have qJ:us[dj]?=some us[dj]:=a8 QC;have vy:a[dj]?=some a[dj]:=a8 HP;have cR:=eF.own dj _ _ qJ vy;have hlen:=tk.out _ (List.mem_of_getElem? vy);have kF:=dd.out;unfold Bw at kF;rw[if_pos av,iV,Int.toNat_natCast,vy,Option.getD_some]at kF;generalize us[dj]=u at*;generalize a[dj]=zH at*;obtain⟨AO,hj,rfl⟩:=il cR;have d0:=eF.fD.cell dj;simp only[List.getElem?_toArray,qJ]at d0;have dl:=eF.fD.lt;rw[iV]at dq aT;have A5:=hid (show∀cf,Kept e8 cf→Calls prog 68 #[.agg #[r.ag,dj,r.bD,r.fa,r.dH,r.dB,.slice jg r.g.length gc,.slice iS r.v.length gx,r.src],n] cf (p6 cf.heap.size (tR n r) cf)from fun cf (aa:Kept e8 cf)=>iV▸ad8 _ r n cf ((NI.out.kept (aF.trans du.out)).kept (bR.trans aa)) z8 Cq);have ej:=hid (show∀X:World,ao X wr.heap.size 82 #[r.ag,dj,r.bD,r.fa,r.dH,r.dB,.slice jg r.g.length gc,.slice iS r.v.length gx,r.src]→X.cell? ⟨wr.heap.size,0,none⟩=some (.string r.ag)∧X.cell? ⟨wr.heap.size,1,none⟩=some (.int .i64 dj)∧X.cell? ⟨wr.heap.size,2,none⟩=some (.int .i64 r.bD)∧X.cell? ⟨wr.heap.size,3,none⟩=some (.int .i64 r.fa)∧X.cell? ⟨wr.heap.size,4,none⟩=some (.int .i64 r.dH)∧X.cell? ⟨wr.heap.size,5,none⟩=some (.int .i64 r.dB)∧X.cell? ⟨wr.heap.size,6,none⟩=some (.slice jg r.g.length gc)∧X.cell? ⟨wr.heap.size,7,none⟩=some (.slice iS r.v.length gx)∧X.cell? ⟨wr.heap.size,8,none⟩=some (.string r.src)from fun X h=>⟨h.cell 0,h.cell 1,h.cell 2,h.cell 3,h.cell 4,h.cell 5,h.cell 6,h.cell 7,h.cell 8⟩);have bn:=hid (And.intro eF (And.intro qJ (And.intro vy (And.intro cR (And.intro hlen kF)))));have Jq:=hid (show∀(dV jT:World) (sb:Value),Kept e8 dV→cn jT W.heap.size sb (zH++tR n r)→dV.grownBy jT (Value.slice AO zH.length hj).ownBlock→(sb.ownBlock=(Value.slice AO zH.length hj).ownBlock∨sb.ownBlock=some dV.heap.size)→
      ∃MB d',lf (jT.setCell ⟨W.heap.size,dj,none⟩ sb) W.heap.size W.heap.size MB d'∧d'.length=n∧(∀l∈d',l.length≤96*(i+1))∧ry n (rs.drop (i+1)) d'=T∧Kept W (jT.setCell ⟨W.heap.size,dj,none⟩ sb)from fun dV jT sb aO aN cK dA=>
     ⟨_,_,(eF.kept aO).upd qJ aN cK dA,by rw[List.length_set];exact js,fun l aq=>by
      rcases List.mem_or_eq_of_mem_set aq with aq|rfl
      ·have:=tk.out l aq;omega
      ·have:=Vk n r z8 Cq;rw[List.length_append];omega,kF,(kg ((du.out.trans bR).trans aO) (cR.kH aO) (Nat.le_refl _) cK).setCell (p:=⟨W.heap.size,dj,none⟩) (Nat.le_refl _) _⟩)
    have HBK:=hid (And.intro iV av);have dr:=hid aT;have xJ:=hid (show some wr.heap.size≠(Value.slice AO zH.length hj).ownBlock from fun e=>Nat.lt_irrefl _ (E9 (Dd.out.own dj _ _ qJ vy) e.symm));have alz:=Vk n r z8 Cq;have hGb:W.heap.size≠wr.heap.size:=by have:=Dd.out.fD.lt;omega
    have C9:=hid (show zH.length≤96*1000 from Nat.le_trans hlen (by omega));have gB:(dj:Int)<n:=by omega
    have C0:=hid (show W.heap.size≤e8.heap.size from Nat.le_of_lt dl);rw[iV]at av;clear eF qJ vy cR hlen kF av aT;go_upto_region 6 with fail
    go_region_law
     (first
      |(rw[if_pos (by rfl)];go_simp;go_at_call 68;refine (A5.out _ ((aQ _).drew)).mono ?_;rintro e dV ⟨u6,rfl,BU,Wj⟩;have tV:Kept e8 dV:=((aQ e8).drew).trans Wj;clear Wj;obtain⟨q4,eQ,rfl⟩:=il BU;have eE:=(tV.ad bx dq);have e0:ao dV wr.heap.size 82 #[r.ag,dj,r.bD,r.fa,r.dH,r.dB,.slice jg r.g.length gc,.slice iS r.v.length gx,r.src]:=dr.out.kept tV;have FH:dV.cell? ⟨W.heap.size,dj,none⟩=some (.slice AO zH.length hj):=tV.ad dl d0;have eN:=hid (And.intro BU tV);clear BU tV)
      |(refine aaM rfl (.tmp 36) (.tmp 40) rfl rfl (bn.out.2.2.2.1.kH eN.out.2) rfl eN.out.1.reads (by have:=C9.out;omega) (by have:=C0.out;have:=eN.out.2.size;omega) ?_;intro sb jT vo wV BO;obtain⟨Fy,kv,rfl⟩:=il vo;have lW:ao jT wr.heap.size 82 #[r.ag,dj,r.bD,r.fa,r.dH,r.dB,.slice jg r.g.length gc,.slice iS r.v.length gx,r.src]:=(wV.block wr.heap.size e0.lt xJ.out).trans e0;have mx:=ao.cell lW 1;simp only[List.getElem?_toArray,List.getElem?_cons_zero,List.getElem?_cons_succ]at mx;have I2:=(wV.block W.heap.size (bd dl eN.out.2.size) (fun e=>bn.out.1.far dj _ bn.out.2.1 e.symm)).trans (bn.out.1.fD.kept eN.out.2);have g7:=ao.cell I2 dj;have f7:=ao.frozen I2 dj;have EY:=ao.lt I2;simp only[List.getElem?_toArray,bn.out.2.1]at g7;clear I2;have jh:=hid (And.intro vo (And.intro wV BO));clear vo wV BO))
    all_goals
     obtain⟨vo,wV,BO⟩:=jh.out;have bq:=hid (Jq.out _ _ _ eN.out.2 vo wV BO);clear vo wV BO;go_wp2_with fail
     go_roundw
     case rel=>
      obtain⟨MB,d',e6,z2,z3,z4,z5⟩:=bq.out;rw[List.length_append]at e6 z5;exact⟨i+1,MB,d',by go_num,aD,e6,z2,z3,z4,z5⟩
     case measure=>simp[intOf];omega
   ·have kF:=dd.out;unfold Bw at kF;rw[if_neg av]at kF;have Bi:=hid kF;have xL:=hid (Dd.out.kept bR);have gM:=hid (du.out.trans bR);have si:=hid (show∀l∈a,l.length≤96*(i+1)from fun l aq=>by have:=tk.out l aq;omega);clear kF;rcases (show r.bK<0∨(0≤r.bK∧(n:Int)≤r.bK) by omega)with ll|⟨ll,gB⟩
    ·go_wp2_with fail
     go_roundw
     case rel=>exact⟨i+1,us,a,by go_num,aD,xL.out,js,si.out,Bi.out,gM.out⟩
     case measure=>simp[intOf];omega
    ·go_wp2_with fail
     go_roundw
     case rel=>exact⟨i+1,us,a,by go_num,aD,xL.out,js,si.out,Bi.out,gM.out⟩
     case measure=>simp[intOf];omega
  ·obtain rfl:i=rs.length:=by omega
   rw[List.drop_length,ry]at aG;subst aG;have c6:¬((rs.length:Int)<rs.length):=by omega
   have du:=hid ab;have Dd:=hid sU;have tk:=hid lk;have wu:=hid lb.out;have hc:=hid (show gg n rs=a.map fl from cB.out);clear ab sU lk cB ch lb cp aS a_ eb an3;generalize wr=wJ at*;go_wp2_with fail
   go_loopw [46] (fun y eA=>∃(d:Nat) (CT:List Value),y= .int .i64 d∧d≤n∧lf eA W.heap.size W.heap.size CT ((a.take d).map fl++a.drop d)∧Kept W eA) (fun y _=>n-(intOf y).toNat)
   case atStart=>exact⟨0,us,rfl,Nat.zero_le _,by rw[List.take_zero,List.map_nil,List.nil_append,List.drop_zero];exact Dd.out,du.out⟩
   case round=>
    obtain⟨d,CT,rfl,iV,sU,ab⟩:=hrel;by_cases aD:d<n
    ·have QC:d<CT.length:=by rw[sU.len,List.length_append,List.length_map,List.length_take,List.length_drop];omega
     have He:d<a.length:=by omega
     have qJ:CT[d]?=some CT[d]:=a8 QC;have vy:a[d]?=some a[d]:=a8 He;have sV:((a.take d).map fl).length=d:=by rw[List.length_map,List.length_take];omega
     have qI:((a.take d).map fl++a.drop d)[d]?=some a[d]:=by
      rw[List.getElem?_append_right (by omega),sV,Nat.sub_self,List.getElem?_drop,Nat.add_zero,vy]
     have cR:=sU.own d _ _ qJ qI;have hlen:=tk.out _ (List.mem_of_getElem? vy);have EI:((a.take d).map fl++a.drop d).set d (fl a[d])=(a.take (d+1)).map fl++a.drop (d+1):=by
      apply List.ext_getElem?;intro k;rw[List.getElem?_set];have afE:((a.take (d+1)).map fl).length=d+1:=by rw[List.length_map,List.length_take];omega
      rcases Nat.lt_trichotomy d k with aa|aa|aa
      ·rw[if_neg (by omega),List.getElem?_append_right (by omega),List.getElem?_append_right (by omega),sV,afE,List.getElem?_drop,List.getElem?_drop];congr 1;omega
      ·subst aa;rw[if_pos rfl,if_pos (by rw[List.length_append,sV,List.length_drop];omega),List.getElem?_append_left (by omega),List.getElem?_map,List.getElem?_take_of_lt (by omega),vy];rfl
      ·rw[if_neg (by omega),List.getElem?_append_left (by omega),List.getElem?_append_left (by omega),List.getElem?_map,List.getElem?_map,List.getElem?_take_of_lt (by omega),List.getElem?_take_of_lt (by omega)]
     generalize CT[d]=u at*;generalize a[d]=zH at*;obtain⟨AO,hj,rfl⟩:=il cR;have d0:=sU.fD.cell d;simp only[List.getElem?_toArray,qJ]at d0;have dl:=sU.fD.lt;have cD:=hid (aaK _ _ _ _ cR (by have:=tk.out;omega));have ym:(d:Int)<n:=by omega
     have bn:=hid (And.intro sU (And.intro qJ (And.intro EI (And.intro cR ab))));clear sU qJ EI cR ab qI vy;go_upto_region 11 with fail
     go_wp2_with (go_at_call 54;refine cD.out.mono ?_;rintro e cf ⟨u5,rfl,aO,aN,cK⟩;obtain⟨dk,bJ,rfl⟩:=il aO;have I1:=(cK.block W.heap.size dl (fun e=>bn.out.1.far d _ bn.out.2.1 e.symm)).trans bn.out.1.fD;have g5:=ao.cell I1 d;have f5:=ao.frozen I1 d;have dP:=ao.lt I1;simp only[List.getElem?_toArray,bn.out.2.1]at g5;have kO:=hid (And.intro aO (And.intro aN cK));clear aO aN cK I1)
     obtain⟨aO,aN,cK⟩:=kO.out;obtain⟨b3,cT,ha,h0,se⟩:=bn.out;have e6:=b3.upd cT aO cK (.inl aN);rw[ha]at e6;have z2:Kept W (cf.setCell ⟨W.heap.size,d,none⟩ (.slice dk (fl zH).length bJ)):=(kg se h0 (Nat.le_refl _) cK).setCell (p:=⟨W.heap.size,d,none⟩) (Nat.le_refl _) _;have bq:=hid (And.intro e6 z2);clear e6 z2 b3 cT ha h0 se aO aN cK;go_roundw
     case rel=>exact⟨d+1,_,by go_num,aD,bq.out.1,bq.out.2⟩
     case measure=>simp[intOf];omega
    ·obtain rfl:d=n:=by omega
     have Xs:¬((d:Int)<d):=by omega
     have bn:=hid (And.intro sU ab);have aV:=hid (show (a.take d).map fl++a.drop d=gg d rs by rw[List.take_of_length_le (by omega),List.drop_eq_nil_of_le (by omega),List.append_nil];exact hc.out.symm);clear sU ab;go_wp2_with fail
     go_ret;exact⟨W.heap.size,CT,rfl,by rw[←aV.out];exact lf.low bn.out.1 (Nat.le_of_lt ar),Nat.le_of_lt ar,aF.trans bn.out.2⟩
end Go.Proofs.YtobpgndkciofhaaGreatDoor
