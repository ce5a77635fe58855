import Derived.Test.YtilhklpfkgbikaaGreatDoorAO
set_option linter.all false
namespace Go.Proofs.YtilhklpfkgbikaaGreatDoor
open Go.RowKit Go.Proofs.Tryz
set_option maxRecDepth 100000
set_option maxHeartbeats 16000000
abbrev AR(n:aa):aa->Prop:=okW (λ_=>False) n
def Qv(y:pI×ak):dN:=[.string y.1.aM,y.2]
def aiX(y:pI×ak):(Qv y).length=2:=rfl
def VR(y:pI×ak)(w:ag):Prop:=y.1.aM.size<=140737488355328/\xe w y.2 y.1.mem
def aiY(w:ag)(b o:aa)(y:pI×ak)(h:Fb w b o (Qv y))(az:VR y w):n2 w b o y.1:=⟨⟨h 0 _ rfl,az.1⟩,⟨_,h 1 _ rfl,az.2⟩⟩
def L0{α:Type}(R:ag->ak->α->Prop)(l:α)(w:ag)(e:Ending)(w':ag):Prop:=∃u,e=bL u/\ea (λb=>w.heap.size<=b) w' (λx=>R x u l)/\Kept w w'
def Tryz.alp:(prog.info? 92).map (λi=>(i.zero,i.size,i.bytes))=some (some (aF #[.string ⟨#[]⟩,bf]),2,40):=by kernel_rfl
def YK{n b:aa}(h:n<=b):AR n b:= .inr h
def VH{w:ag}{n:aa}{Q:ag->Prop}(h:ea (AR n) w Q):ea (λb=>n<=b) w Q:=h.mono λb _ aA=>aA.elim (λh=>h.1.elim) id
def anb(s:ez)(A:gu)(n c:aa):∀u∈[Value.string s,ae A n c],u.oneCell'=true:=by
 intro u hu;simp at hu;rcases hu with rfl|rfl<;>rfl
def JJ{w0 w:ag}{v:ak}{n:aa}{news:dN}(h:sN w0 w v n news):∃A c,v=ae A n c:=by
 obtain⟨A,c,e,-⟩:=h;exact⟨A,c,e⟩
def aa8{w w':ag}{o:Obj}{r:Option aa}{g k:aa}{v:ak}(aq:aU w (g,k)=some v)(aN:g<w)(al:(w.alloc o).grownBy w' r)(bU:r≠some g):aU w' (g,k)=some v:=by
 rw[Db (a:=⟨g,k,none⟩) ((al.block g (by simp;omega) (λe=>bU e.symm)).trans (wL w o g aN))];exact aq
def aif(v:ak)(l:List pI)(w:ag)(a1:c0 2 n2 w v l)(av:l.length<=1000)(hm:∀x∈l,x.mem.length<=1000):bg 42 #[v] w (L0 (c0 2 n2) l w):=by
 have hr:=I (λ(v:ak)(n:aa)(news:dN)w1(h:yc w1 v n news)(ar:news.length=n*1)(ab:∀u∈news,u.oneCell'=true)(aH:n<=1000000)=>aib v n news w1 h ar ab aH);unfold AM at hr;obtain⟨k9,fc,rfl,-,-,aj⟩:=a1;have bS:=I aj;have cB:=I hm;obtain⟨i0,fx,fy,fz,fA⟩:=hy Tryz.alp;obtain⟨n,aH⟩:∃n,n=l.length:=⟨_,rfl⟩;rw[<-aH]at av⊢;have b3:=I aH;unfold L0;clear aH aj hm;go_enter func42,ntmps42
 go_wp2_with fail
 go_loopw [3,8] (λa y wr=>∃(i:aa)(cA:List (pI×ak)),y=ah i/\i<=n/\Kept w wr/\jT wr w 92 2 Qv (AR w) VR a cA/\cA.map (·.1)=l.take i) (λ_ y _=>n-(intOf y).toNat)
 case atStart=>exact⟨0,[],rfl,d' _,aG _,jT.nil,rfl⟩
 case round=>
  obtain⟨i,cA,rfl,dG,ax,cL,bZ⟩:=hrel;by_cases aN:i<n
  .obtain⟨b,o,rfl,af,aq⟩:=bS.out (by have:=b3.out;omega);obtain⟨x,al⟩:∃x,l[i]?=some x:=⟨_,bn (by have:=b3.out;omega)⟩;obtain⟨⟨bX,qP⟩,⟨c1,bQ,Ay⟩⟩:=aq i x al;have pq:=cB.out x (fe al);have ov:cA.length=i:=by
    have:=congrArg List.length bZ;rw[er,gT]at this;have:=b3.out;omega
   obtain⟨y2,Ct,-⟩:=c0.cells SH Ay;obtain⟨gn,lK,rfl,-⟩:=id y2;have bX:=ax.aI af bX;have bQ:=ax.aI af bQ;have mw:=bG af ax.size;have db:(i:J)<n:=by omega
   obtain⟨lC,ac,v7⟩:=iN cL.g;rw[ov]at v7;subst v7;have q8:=I (show (cA++[(x,(ae none 0 0:ak))]).map (·.1)=l.take (i+1)from by rw[k6,bZ,qZ,al];rfl);clear aq al;go_upto_region 5 with fail
   generalize aL:wr.alloc _=V at*;obtain⟨fi,BT⟩:=Kept.aQ aL;clear aL;have b1:=I (cL.kept fi);have iS:=I (ax.trans fi);have cN:=λg e=>(iF (cL.kept fi).g g e);have o9:=I (λg e=>(iF cL.g g e));have Js:=(ax.trans fi).size;have TY:=I (λw1(h:Kept w w1)=>y2.kept h);have Ui:=I Ct;clear bX bQ mw cL ax Ay y2 Ct cN;generalize Ck:wr.heap.size=B1 at*;have Cy:=fi.size;have eF:=I (show∀c_,Kept V c_->(aU c_ ⟨B1,0,none⟩=some (.string x.aM)/\aU c_ ⟨B1,1,none⟩=some (ae gn x.mem.length lK))from λc_ h=>⟨(BT.kept h).cell 0,(BT.kept h).cell 1⟩);have Rc:B1<V:=BT.lt;have bU:(Value.slice lC i ac).ownBlock≠some B1:=λe=>by have:=(o9 B1 e).2;omega
   obtain⟨z0,fL⟩:=eF.out V (aG _);clear BT fi;go_region_held3 (λc_=>aU c_ ⟨B1,0,none⟩=some (.string x.aM)/\aU c_ ⟨B1,1,none⟩=some (ae gn x.mem.length lK))
    ((first|(with_reducible assumption)|(refine eF.out _ ?_;(with_reducible first|exact K8|exact K8.aZ|exact (aG _).drew);done)))
    ((first
     |(go_at_call 77;refine (hr _ _ _ _ (TY _ (iS.trans ?_)) (IL SH.len x.mem) (IM SH.one x.mem) (by omega)).mono ?_;(·exact (aG _).drew);rintro aQ dc⟨u,rfl,hu,ey⟩;have K8:Kept V dc:=(by (exact (aG _).drew.trans ey));obtain⟨gI,eg,rfl⟩:=JJ hu;have pa:=I (sN.CZ SH Ui (by omega) (sN.low (w0:=V) hu (Kept.size_le (w:=V) (by (exact (aG _).drew)))));have HH:=I K8;have zT:=I (b1.kept K8);have u':=K8.size;have hs7:=ey.size;clear hu ey)
     |(refine Hj _ rfl (.tmp 12) (.tmp 19) 22 rfl w 92 i0 (aF #[.string ⟨#[]⟩,bf]) 2 40 underlying22 fx fy fz fA rfl (by decide) (ae lC i ac) i (cA.flatMap Qv) (by simp[Act.eval]) (by have:=fX zT.g (.cells #[x.aM,ae gI x.mem.length eg] 92);rwa [ov]at this) ⟨dc.heap.size,0,none⟩ 1 1 [.string x.aM,ae gI x.mem.length eg] (by simp[Act.eval]) rfl pf (anb _ _ _ _) (by decide) (by unfold maxLen;omega) (by omega) (by simp;omega) _ rfl ?_;intro g6 dn lP bd a8 dk ud;have au9:aU lP ⟨B1,0,none⟩=some (.string x.aM)/\aU lP ⟨B1,1,none⟩=some (ae gn x.mem.length lK):=⟨aa8 (eF dc HH).1 (by omega) a8 bU,aa8 (eF dc HH).2 (by omega) a8 bU⟩;have tE:=I (jT.snoc (y:=(x,ae gI x.mem.length eg)) (v6:=ae (some ⟨g6,0,none⟩) (i+1) dn) zT (by rw[ov];exact bd) a8 (dk.imp (λe=>e.symm) (λe=>by rw[e];rfl)) (zl (v:=ae lC i ac) (pa.imp (Q':=VR (x,ae gI x.mem.length eg)) λu hu=>⟨qP,hu⟩) (by omega) (λg e=>by have:=(o9 g e).2;omega)));have yl:=I (xN (iS.trans HH) zT.g (bB _) a8);clear bd a8 dk ud)))
   rename_i hHeld;clear hHeld;go_wp2_with fail
   go_roundw
   case rel=>exact⟨i+1,_,by go_num,aN,yl,tE,by rw[<-q8,k6,k6];rfl⟩
   case measure=>simp[intOf];omega
  .obtain rfl:i=n:=by omega
   have db:¬((i:J)<i):=by omega
   rw[mH (by rw[<-b3];exact bB _)]at bZ;have ov:cA.length<=1000:=by
    have:=congrArg List.length bZ;rw[er]at this;have:=b3.out;omega
   have b1:=I cL;have cp:=I ax;have q8:=I bZ;clear cL ax bZ;go_wp2_with fail
   go_ret;exact⟨_,rfl,by rw[<-q8];exact VH (b1.CZ aiX aiY (by omega) (λb af=>YK af)),cp⟩
def SV(y:lB×ak):dN:=[.string y.1.aM,y.1.dL,y.1.eY,y.1.cg,y.1.bK,y.2]
def apw(y:lB×ak):(SV y).length=6:=rfl
structure TbB(x:lB):Prop where
 aM:x.aM.size<=140737488355328
 dL:ow x.dL
 eY:ow x.eY
 cg:ow x.cg
 bK:ow x.bK
def Zm(y:lB×ak)(w:ag):Prop:=TbB y.1/\c0 5 oG w y.2 y.1.rows
def apx(w:ag)(b o:aa)(y:lB×ak)(h:Fb w b o (SV y))(az:Zm y w):ld w b o y.1:=⟨⟨h 0 _ rfl,az.1.aM⟩,⟨h 1 _ rfl,az.1.dL⟩,⟨h 2 _ rfl,az.1.eY⟩,⟨h 3 _ rfl,az.1.cg⟩,⟨h 4 _ rfl,az.1.bK⟩,⟨_,h 5 _ rfl,az.2⟩⟩
def Tryz.alu:(prog.info? 97).map (λi=>(i.zero,i.size,i.bytes))=some (some (aF #[.string ⟨#[]⟩,(),(),(),(),bf]),6,72):=by kernel_rfl
def ane(s:ez)(a b c d:J)(A:gu)(n q:aa):∀u∈[Value.string s,a,b,c,d,ae A n q],u.oneCell'=true:=by
 intro u hu;simp at hu;rcases hu with rfl|rfl|rfl|rfl|rfl|rfl<;>rfl
def aih(v:ak)(l:List lB)(w:ag)(a1:c0 6 ld w v l)(av:l.length<=1000)(hm:∀x∈l,x.rows.length<=1000):bg 43 #[v] w (L0 (c0 6 ld) l w):=by
 have hr:=I (λ(v:ak)(n:aa)(news:dN)w1(h:yc w1 v n news)(ar:news.length=n*5)(ab:∀u∈news,u.oneCell'=true)(aH:n<=1000000)=>ah9 v n news w1 h ar ab aH);unfold AM at hr;obtain⟨k9,fc,rfl,-,-,aj⟩:=a1;have bS:=I aj;have cB:=I hm;obtain⟨i0,fx,fy,fz,fA⟩:=hy Tryz.alu;obtain⟨n,aH⟩:∃n,n=l.length:=⟨_,rfl⟩;rw[<-aH]at av⊢;have b3:=I aH;unfold L0;clear aH aj hm;go_enter func43,ntmps43
 go_wp2_with fail
 go_loopw [3,8] (λa y wr=>∃(i:aa)(cA:List (lB×ak)),y=ah i/\i<=n/\Kept w wr/\jT wr w 97 6 SV (AR w) Zm a cA/\cA.map (·.1)=l.take i) (λ_ y _=>n-(intOf y).toNat)
 case atStart=>exact⟨0,[],rfl,d' _,aG _,jT.nil,rfl⟩
 case round=>
  obtain⟨i,cA,rfl,dG,ax,cL,bZ⟩:=hrel;by_cases aN:i<n
  .obtain⟨b,o,rfl,af,aq⟩:=bS.out (by have:=b3.out;omega);obtain⟨x,al⟩:∃x,l[i]?=some x:=⟨_,bn (by have:=b3.out;omega)⟩;obtain⟨⟨bX,ie⟩,⟨bQ,s1⟩,⟨cx,s2⟩,⟨hx,G5⟩,⟨hK,uf⟩,⟨c1,pE,Ay⟩⟩:=aq i x al;have uz:=I (TbB.mk ie s1 s2 G5 uf);have pq:=cB.out x (fe al);have ov:cA.length=i:=by
    have:=congrArg List.length bZ;rw[er,gT]at this;have:=b3.out;omega
   obtain⟨y2,Ct,-⟩:=c0.cells SG Ay;obtain⟨gn,lK,rfl,-⟩:=id y2;have bX:=ax.aI af bX;have bQ:=ax.aI af bQ;have cx:=ax.aI af cx;have hx:=ax.aI af hx;have hK:=ax.aI af hK;have pE:=ax.aI af pE;have mw:=bG af ax.size;have db:(i:J)<n:=by omega
   obtain⟨lC,ac,v7⟩:=iN cL.g;rw[ov]at v7;subst v7;have q8:=I (show (cA++[(x,(ae none 0 0:ak))]).map (·.1)=l.take (i+1)from by rw[k6,bZ,qZ,al];rfl);clear aq al ie s1 s2 G5 uf;go_upto_region 5 with fail
   have fi:=(aG wr).alloc (.cells #[x.aM,x.dL,x.eY,x.cg,x.bK,ae gn x.rows.length lK] 97);have BT:=aB.new wr 97 #[x.aM,x.dL,x.eY,x.cg,x.bK,ae gn x.rows.length lK];have Ds:=I cL;have e8:=I ax;have o9:=I (λg e=>(iF cL.g g e));have Js:=ax.size;have TY:=I (λw1(h:Kept w w1)=>y2.kept h);have Ui:=I Ct;clear bX bQ cx hx hK pE mw cL Ay y2 Ct;have hgt:wr.heap.size<(wr.alloc (.cells #[x.aM,x.dL,x.eY,x.cg,x.bK,ae gn x.rows.length lK] 97)).heap.size:=BT.lt;generalize Ck:wr.heap.size=gt at*;generalize wr.alloc (.cells #[x.aM,x.dL,x.eY,x.cg,x.bK,ae gn x.rows.length lK] 97)=V at*;obtain⟨fS,lt⟩:=BT.p;have jG:=I (ax.trans fi);go_upto_region 6 with (go_at_call 78;refine (hr _ _ _ _ (TY _ jG) (IL SG.len x.rows) (IM SG.one x.rows) (by omega)).mono ?_;rintro aQ dc⟨u,rfl,hu,ey⟩;obtain⟨gI,eg,rfl⟩:=JJ hu;have pa:=I (sN.CZ SG Ui (by omega) hu);have LF:=BT.kept ey;have LO:=LF.cell;have ND:=LF.lt;have L_:=LF.frozen;clear hu)
   have u':=ey.size;have yo:=I (ea.set (p:=⟨gt,5,none⟩) (u:=ae gI x.rows.length eg) pa (by simp only;omega));have tw:=LF.ba 5 (ae gI x.rows.length eg);simp only[kM,lS,qg]at tw;have B8:=(fi.trans ey).setCell (p:=⟨gt,5,none⟩) (by simp only;omega) (ae gI x.rows.length eg);have mP:=e8.trans B8;clear fS lt LO ND L_ LF BT fi ax ey;generalize dc.setCell ⟨gt,5,none⟩ (ae gI x.rows.length eg)=rf at*;obtain⟨fS,lt⟩:=tw.p;have zT:=I (Ds.kept B8);have lX:=I mP;have hs7:=mP.size;clear B8 mP tw;go_wp2_with (at_builtin;refine jB _ rfl (.tmp 16) (.tmp 18) 23 rfl w 97 i0 (aF #[.string ⟨#[]⟩,(),(),(),(),bf]) 6 72 underlying23 fx fy fz fA rfl (by decide) _ i (cA.flatMap SV) rfl (by have:=fX zT.g (.cells #[x.aM,x.dL,x.eY,x.cg,x.bK,ae gI x.rows.length eg] 97);rwa [ov]at this) ⟨rf.heap.size,0,none⟩ 1 1 [.string x.aM,x.dL,x.eY,x.cg,x.bK,ae gI x.rows.length eg] rfl rfl pf (ane _ _ _ _ _ _ _ _) (by unfold maxLen;omega) (by omega) (by simp;omega) ?_;intro v6 lP bd a8 _ dk;have cI:=I (bb bd (bb a8 dk));clear bd a8 dk)
   obtain⟨ab,ad,bw⟩:=cI.out;have tE:=I (jT.snoc (y:=(x,ae gI x.rows.length eg)) zT (by rw[ov];exact ab) ad bw (zl (v:=ae lC i ac) (yo.imp (Q':=Zm (x,ae gI x.rows.length eg)) λu hu=>⟨uz,hu⟩) (by omega) (λg e=>by have:=(o9 g e).2;omega)));have yl:=I (xN lX zT.g (bB _) ad);clear ab ad bw;go_roundw
   case rel=>exact⟨i+1,_,by go_num,aN,yl,tE,by rw[<-q8,k6,k6];rfl⟩
   case measure=>simp[intOf];omega
  .obtain rfl:i=n:=by omega
   have db:¬((i:J)<i):=by omega
   rw[mH (by rw[<-b3];exact bB _)]at bZ;have ov:cA.length<=1000:=by
    have:=congrArg List.length bZ;rw[er]at this;have:=b3.out;omega
   have b1:=I cL;have cp:=I ax;have q8:=I bZ;clear cL ax bZ;go_wp2_with fail
   go_ret;exact⟨_,rfl,by rw[<-q8];exact VH (b1.CZ apw apx (by omega) (λb af=>YK af)),cp⟩
end Go.Proofs.YtilhklpfkgbikaaGreatDoor
