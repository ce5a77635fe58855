import Derived.Test.YtobpgndkciofhaaGreatDoorK
set_option linter.all false
namespace Go.Proofs.YtobpgndkciofhaaGreatDoor
open Go.RowKit Go.Proofs.Tryz
open Go.Lib (hid)
set_option maxRecDepth 100000
set_option maxHeartbeats 16000000
theorem LS {o:Int} {q:Nat} {t:cO} {i:Nat} {l:List (List bg)} {m:List bg} {acc:bg} (h:l[i]?=some m):kJ o q t i (l.drop i) acc=
  if m.length≤q∨(m[q]?.getD v0).k=0 then (v0,6)
  else if tX (m[q]?.getD v0) t.k t.e=false then (v0,8)
  else if o=36 then (if gH {acc with n:=acc.n+(m[q]?.getD v0).n} then kJ o q t (i+1) (l.drop (i+1)) {acc with n:=acc.n+(m[q]?.getD v0).n} else (v0,3))
  else if o=37 then kJ o q t (i+1) (l.drop (i+1)) {acc with n:=min acc.n (m[q]?.getD v0).n}
  else if o=38 then kJ o q t (i+1) (l.drop (i+1)) {acc with n:=max acc.n (m[q]?.getD v0).n}
  else if o=39 then kJ o q t (i+1) (l.drop (i+1)) (if i=0∨acc.n<(m[q]?.getD v0).n then m[q]?.getD v0 else acc)
  else kJ o q t (i+1) (l.drop (i+1)) acc:=by
 obtain⟨aE,rfl⟩:=b8 h;rw[List.drop_eq_getElem_cons aE,kJ]
def Rz (r:bg×Int) (w:World) (e:Ending) (w':World):Prop:=e= .returned (.tuple #[.agg #[r.1.k,r.1.e,r.1.n],r.2])∧Kept w w'
theorem h7 {a b c d d' ey gf eR:Int} (h:((⟨a,b,c⟩:bg),d)=(⟨d',ey,gf⟩,eR)):a=d'∧b=ey∧c=gf∧d=eR:=by simpa[and_assoc] using h
def JB (n:Int):Prop:= -2000000000000000≤n∧n≤2000000000000000
theorem ahL (o:Int) (aL:o=36∨o=37∨o=38∨o=39) (k:Nat) (T:cO) (i:Nat) (l:List (List bg)) (m:List bg) (V acc:bg) (R:bg×Int) (ai:l[i]?=some m) (dZ:m[k]?=some V) (aa:V.k≠0) (bS:tX V T.k T.e=true)
  (aH:kJ o k T i (l.drop i) acc=R):(o=36∧gH {acc with n:=acc.n+V.n}=true∧kJ o k T (i+1) (l.drop (i+1)) {acc with n:=acc.n+V.n}=R)∨(o=36∧gH {acc with n:=acc.n+V.n}=false∧R=(v0,3))∨
   (o=37∧kJ o k T (i+1) (l.drop (i+1)) {acc with n:=min acc.n V.n}=R)∨(o=38∧kJ o k T (i+1) (l.drop (i+1)) {acc with n:=max acc.n V.n}=R)∨
   (o=39∧(i=0∨acc.n<V.n)∧kJ o k T (i+1) (l.drop (i+1)) V=R)∨(o=39∧i≠0∧¬acc.n<V.n∧kJ o k T (i+1) (l.drop (i+1)) acc=R):=by
 rw[LS ai,dZ,Option.getD_some,if_neg (by have:=(b8 dZ).1;omega),bS,if_neg (by decide)]at aH;rcases aL with rfl|rfl|rfl|rfl
 ·rw[if_pos rfl]at aH;by_cases hp:gH {acc with n:=acc.n+V.n}=true
  ·rw[if_pos hp]at aH;exact .inl ⟨rfl,hp,aH⟩
  ·rw[if_neg hp]at aH;exact .inr (.inl ⟨rfl,by simpa using hp,aH.symm⟩)
 ·rw[if_neg (by decide),if_pos rfl]at aH;exact .inr (.inr (.inl ⟨rfl,aH⟩))
 ·rw[if_neg (by decide),if_neg (by decide),if_pos rfl]at aH;exact .inr (.inr (.inr (.inl ⟨rfl,aH⟩)))
 ·rw[if_neg (by decide),if_neg (by decide),if_neg (by decide),if_pos rfl]at aH;by_cases hp:i=0∨acc.n<V.n
  ·rw[if_pos hp]at aH;exact .inr (.inr (.inr (.inr (.inl ⟨rfl,hp,aH⟩))))
  ·rw[if_neg hp]at aH;exact .inr (.inr (.inr (.inr (.inr ⟨rfl,fun h=>hp (.inl h),fun h=>hp (.inr h),aH⟩))))
theorem ahK (o:Int) (k:Nat) (aL:o=36∨o=37∨o=38∨o=39) (bE:Value) (E:dC) (w:World) (aX:hl w bE E) (aa:k<E.mt.length):Calls prog 164 #[.agg #[o,k],bE] w (Rz (yI ⟨o,k⟩ E) w):=by
 unfold Rz;obtain⟨bo,b6,bW,b4,bv,rfl,I,U,ae,aJ,bp⟩:=aX;obtain⟨cl,aC,rfl,-⟩:=I.at_;obtain⟨cM,aM,rfl,-⟩:=U.at_;obtain⟨cX,a1,rfl,gR,br⟩:=ae.at_;obtain⟨ef,bN,rfl,bl⟩:=aJ.at_;obtain⟨dk,bJ,rfl,-⟩:=bp.at_;obtain⟨dy,anU,rfl,Eg,vK⟩:=bl (by omega);have P2:E.mt[k]?=some E.mt[k]:=a8 aa;obtain⟨e3,ee⟩:=vK k _ P2;have jI:(k:Int)<E.mt.length:=by omega
 have rP:yI ⟨o,k⟩ E=if o=39∧E.ms.length=0 then (v0,6)else kJ o k E.mt[k] 0 (E.ms.drop 0) ⟨E.mt[k].k,E.mt[k].e,if o=37 then 1 else 0⟩:=by
  unfold yI;simp only[Int.toNat_natCast,P2,Option.getD_some,List.drop_zero]
 obtain⟨R,aw⟩:∃R,R=yI ⟨o,k⟩ E:=⟨_,rfl⟩;rw[←aw]at rP⊢;clear aw I U ae aJ bp vK P2 bl;generalize E.mt[k]=T at*;obtain⟨dt,ins,ds,ms,mt,tb⟩:=E;obtain⟨fb,e9⟩:=T;dsimp only at*;obtain⟨n,aA⟩:∃n,n=ms.length:=⟨_,rfl⟩;rw[←aA]at rP br gR⊢;have bk:=hid aA;have Ny:=hid rP;clear aA rP;have yq:(o==37)=true∨(o==37)=false:=by cases (o==37)<;>simp
 obtain⟨⟨eX,gw,dw⟩,rc⟩:=R;go_enter func164,ntmps164
 go_upto_region 1 with fail
 generalize ar:((w.alloc _).alloc _).alloc _=W at*;obtain⟨aF,a_,aS,aT⟩:=Kept.b7 ar;clear ar;have wK:=aF.ad Eg e3;have Bu:=aF.ad Eg ee;have als:=bd Eg aF.size;obtain⟨dL,cA⟩:=a_.p;obtain⟨dq,a7⟩:=aS.p;obtain⟨dR,bx,vS⟩:=aT.q;clear e3 ee;by_cases Pj:o=39∧n=0
 ·obtain⟨rfl,rfl⟩:=Pj;obtain⟨rfl,rfl,rfl,rfl⟩:=h7 Ny.out;clear br yq;go_wp2_with fail
  have Q:=(((((aT.aP 0 ()).aP 1 ()).aP 2 ()).alloc (.cells #[fb,e9] 57)).alloc (.cells #[fb,e9,()] 44)).cell;exact bodyPost_ret (v:= .tuple #[.agg #[(),(),()],.int .i64 6]) (by simp[results,results164,go_sem,Q]) rfl ⟨rfl,(by with_reducible repeat first|exact .refl _|assumption|refine .drew ?_|refine .alloc ?_ _|refine .setCell ?_ (by (try simp only);omega) _|refine .trans ?_ ‹Kept _ _›)⟩
 have KO:=Ny.out;rw[if_neg Pj]at KO;have VU:o=39→0<n:=fun h=>by omega
 obtain⟨mN,Lc⟩:∃mN,mN=o:=⟨_,rfl⟩;rw[←Lc]at KO;have dM:=hid (show mN=36∨mN=37∨mN=38∨mN=39 by rw[Lc];exact aL);have Bk:=hid KO;have SS:=hid VU;have FU:=hid Lc;clear KO Pj VU Ny yq Lc;have wi:=hid a_;have dD:=hid aS;have dr:=hid aT;rcases aL with rfl|rfl|rfl|rfl
 all_goals
  (try (have hnz:((n:Int)==0)=false:=by have:=SS.out rfl;simp;omega))
  clear SS;go_upto_region 7 with fail
  have MW:=(ao.new W 57 #[fb,e9]).alloc (.cells #[fb,e9,()] 44);have MX:=ao.new (W.alloc (.cells #[fb,e9] 57)) 44 #[fb,e9,()];rw[World.size_alloc]at MX;have bX:Kept W ((W.alloc (.cells #[fb,e9] 57)).alloc (.cells #[fb,e9,()] 44)):=(by with_reducible repeat first|exact .refl _|assumption|refine .drew ?_|refine .alloc ?_ _|refine .setCell ?_ (by (try simp only);omega) _|refine .trans ?_ ‹Kept _ _›);go_wp2_with fail
  clear dL dq dR vS cA a7 bx a_ aS aT;go_loopw [39] (fun z wr=>∃(i:Nat) (b9 cL an:Int),i≤n∧z= .int .i64 i∧Kept W wr∧ao wr W.heap.size 57 #[fb,e9]∧ao wr (W.heap.size+1) 44 #[b9,cL,an]∧JB an∧kJ mN k ⟨fb,e9⟩ i (ms.drop i) ⟨b9,cL,an⟩=(⟨eX,gw,dw⟩,rc)) (fun z _=>(n-intOf z).toNat)
  case atStart=>
   have bb:=Bk.out;have Lb:=FU.out;subst Lb
   first
    |exact⟨0,fb,e9,0,Nat.zero_le _,rfl,bX,MW,MX,⟨by omega,by omega⟩,by simpa using bb.symm⟩
    |exact⟨0,fb,e9,1,Nat.zero_le _,rfl,(by with_reducible repeat first|exact .refl _|assumption|refine .drew ?_|refine .alloc ?_ _|refine .setCell ?_ (by (try simp only);omega) _|refine .trans ?_ ‹Kept _ _›),(ao.new W 57 #[fb,e9]).alloc _,(by have:=ao.new (W.alloc (.cells #[fb,e9] 57)) 44 #[fb,e9,.int .i64 1];rwa [World.size_alloc]at this),⟨by omega,by omega⟩,by simpa using bb.symm⟩
  case round=>
   obtain⟨i,b9,cL,an,de,rfl,ab,aK,aU,o1,aG⟩:=hrel;clear bX MW MX;have BS:=aF.trans ab;have hJ:=wi.out.kept ab;have fc:=dD.out.kept ab;have cm:=dr.out.kept ab;obtain⟨eb,cA⟩:=hJ.p;obtain⟨aO,a7⟩:=fc.p;obtain⟨aN,bx,q2f⟩:=cm.q;obtain⟨Iw,EZ⟩:=aK.p;obtain⟨ux,Aq,qbf⟩:=aU.q;have hWs:w.heap.size+1+1<W.heap.size:=dr.out.lt;by_cases aD:i<n
   ·obtain⟨eh,mM,rfl,tY,Ak⟩:=br (by omega);have ai:ms[i]?=some (ms[i]'(by have:=bk.out;omega)):=a8 _;obtain⟨aob,hg,z0,WL⟩:=(Ak i _ ai).2;generalize ms[i]'(by have:=bk.out;omega)=m at*;have aoq:=BS.ad tY z0;have alr:=bd tY BS.size;have c6:(i:Int)<n:=by omega
    obtain⟨Am',cm',nw,PJ⟩:=WL.at_;obtain⟨rfl,-,rfl⟩:=Value.slice.inj nw;clear Ak z0 nw br WL;have dd:=hid aG;have dO:=hid ai;clear aG ai;by_cases au:k<m.length
    ·obtain⟨UJ,anV,rfl,sL,YI⟩:=PJ (by omega);have B8:m[k]?=some m[k]:=a8 au;obtain⟨v0',v1',v2'⟩:=YI k _ B8;generalize m[k]=V at*;obtain⟨cy,uG,fJ⟩:=V;have N9:=BS.ad sL v0';have anB:=BS.ad sL v1';have zF:=BS.ad sL v2';dsimp only at N9 anB zF;have alv:=bd sL BS.size;have rR:(k:Int)<m.length:=by omega
     have Ja:=hid B8;clear YI v0' v1' v2' PJ B8;have ch:=hid (fun w=>WT cy uG fJ fb e9 w);by_cases oZ:cy=0
     ·subst oZ;have aX:=dd.out;rw[LS dO.out,Ja.out,Option.getD_some,if_pos (.inr rfl)]at aX;obtain⟨rfl,rfl,rfl,rfl⟩:=h7 aX.symm;clear aX;go_wp2_with fail
      have xZ:=(((cm.aP 0 ()).aP 1 ()).aP 2 ()).cell;exact bodyPost_ret (v:= .tuple #[.agg #[(),(),()],.int .i64 6]) (by simp[results,results164,go_sem,xZ]) rfl ⟨rfl,(by with_reducible repeat first|exact .refl _|assumption|refine .drew ?_|refine .alloc ?_ _|refine .setCell ?_ (by (try simp only);omega) _|refine .trans ?_ ‹Kept _ _›)⟩
     have P':(cy==0)=false:=by simpa using oZ
     cases bS:tX ⟨cy,uG,fJ⟩ fb e9
     ·have aX:=dd.out;rw[LS dO.out,Ja.out,Option.getD_some,if_neg (by simp only[not_or];exact⟨by omega,oZ⟩),if_pos bS]at aX;obtain⟨rfl,rfl,rfl,rfl⟩:=h7 aX.symm;rw[bS]at ch;clear aX bS;go_wp2_with (go_at_call 159;refine (ch.out _).mono ?_;rintro y w1 ⟨rfl,ak⟩;obtain⟨cx,gQ⟩:=Kept.cells ak;have cb:=ak.size;(try simp at cb))
      have c2:=(cm.alloc (.cells #[cy,uG,fJ] 44)).kept ak;have xZ:=(((c2.aP 0 ()).aP 1 ()).aP 2 ()).cell;exact bodyPost_ret (v:= .tuple #[.agg #[(),(),()],.int .i64 8]) (by simp[results,results164,go_sem,xZ]) rfl ⟨rfl,(by with_reducible repeat first|exact .refl _|assumption|refine .drew ?_|refine .alloc ?_ _|refine .setCell ?_ (by (try simp only);omega) _|refine .trans ?_ ‹Kept _ _›)⟩
     have mF:gH ⟨cy,uG,fJ⟩=true:=by unfold tX at bS;simp only[Bool.and_eq_true]at bS;exact bS.1
     obtain⟨g1,g2,-⟩:=AE mF;simp only at g1 g2;obtain⟨en,dQ⟩:=o1;have df:=ahL mN dM.out k ⟨fb,e9⟩ i ms m ⟨cy,uG,fJ⟩ ⟨b9,cL,an⟩ _ dO.out Ja.out oZ bS dd.out;rw[bS]at ch;have tj:=FU.out;clear bS dd dO Ja oZ mF;have fo:=hid (fun w1 (h:Kept (wr.alloc (.cells #[cy,uG,fJ] 44)) w1)=>(aK.alloc (.cells #[cy,uG,fJ] 44)).kept h);have lZ:=hid (fun w1 (h:Kept (wr.alloc (.cells #[cy,uG,fJ] 44)) w1)=>(aU.alloc (.cells #[cy,uG,fJ] 44)).kept h);rcases df with⟨I,hp,df⟩|⟨I,hp,aX⟩|⟨I,df⟩|⟨I,df⟩|⟨I,hp,df⟩|⟨I,hp,ua,df⟩
     ·first
      |(exfalso;omega)
      |(have re:=hid (fun w=>AF b9 cL (an+fJ) w)
        rw[hp]at re;have l1:=hid (AE hp);have ep:=hid df;clear hp df I tj;go_wp2_with (first|(go_at_call 159;refine (ch.out _).mono ?_;rintro y w1 ⟨rfl,ak⟩;obtain⟨cx,gQ⟩:=Kept.cells ak;have cb:=ak.size;(try simp at cb))|(go_at_call 145;refine (re.out _).mono ?_;rintro y w2 ⟨rfl,a'⟩;obtain⟨fE,nY⟩:=Kept.cells a';have eu:=a'.size;(try simp at eu)))
        have ke:=l1.out
        (try dsimp only at ke)
        go_roundw
        case rel=>exact⟨i+1,b9,cL,an+fJ,aD,by go_num,(by with_reducible repeat first|exact .refl _|assumption|refine .drew ?_|refine .alloc ?_ _|refine .setCell ?_ (by (try simp only);omega) _|refine .trans ?_ ‹Kept _ _›),((fo.out _ ak).far (p:=⟨W.heap.size+1,2,none⟩) (by simp only;omega) _).kept a',((lZ.out _ ak).aP 2 _).kept a',⟨by omega,by omega⟩,ep.out⟩
        case measure=>simp[intOf];omega)
     ·first
      |(exfalso;omega)
      |(have re:=hid (fun w=>AF b9 cL (an+fJ) w)
        rw[hp]at re;obtain⟨rfl,rfl,rfl,rfl⟩:=h7 aX;have c2:=hid (fun w1 (h:Kept (wr.alloc (.cells #[cy,uG,fJ] 44)) w1)=>(cm.alloc (.cells #[cy,uG,fJ] 44)).kept h);clear hp aX I tj;go_wp2_with (first|(go_at_call 159;refine (ch.out _).mono ?_;rintro y w1 ⟨rfl,ak⟩;obtain⟨cx,gQ⟩:=Kept.cells ak;have cb:=ak.size;(try simp at cb))|(go_at_call 145;refine (re.out _).mono ?_;rintro y w2 ⟨rfl,a'⟩;have Z:=((c2.out _ ak).far (p:=⟨W.heap.size+1,2,none⟩) (by simp only;omega) (.int .i64 (an+fJ))).kept a';have z2c:=Z.cell;have z2f:=Z.frozen;have z2l:=Z.lt))
        have xZ:=((((((c2.out _ ak).far (p:=⟨W.heap.size+1,2,none⟩) (by simp only;omega) (.int .i64 (an+fJ))).kept a').aP 0 ()).aP 1 ()).aP 2 ()).cell;exact bodyPost_ret (v:= .tuple #[.agg #[(),(),()],.int .i64 3]) (by simp[results,results164,go_sem,xZ]) rfl ⟨rfl,(by with_reducible repeat first|exact .refl _|assumption|refine .drew ?_|refine .alloc ?_ _|refine .setCell ?_ (by (try simp only);omega) _|refine .trans ?_ ‹Kept _ _›)⟩)
     ·first
      |(exfalso;omega)
      |(have ep:=hid df
        clear df I tj;go_wp2_with (go_at_call 159;refine (ch.out _).mono ?_;rintro y w1 ⟨rfl,ak⟩;obtain⟨cx,gQ⟩:=Kept.cells ak;have cb:=ak.size;(try simp at cb))
        go_roundw
        case rel=>exact⟨i+1,b9,cL,min an fJ,aD,by go_num,(by with_reducible repeat first|exact .refl _|assumption|refine .drew ?_|refine .alloc ?_ _|refine .setCell ?_ (by (try simp only);omega) _|refine .trans ?_ ‹Kept _ _›),(fo.out _ ak).far (p:=⟨W.heap.size+1,2,none⟩) (by simp only;omega) _,(lZ.out _ ak).aP 2 _,⟨by omega,by omega⟩,ep.out⟩
        case measure=>simp[intOf];omega)
     ·first
      |(exfalso;omega)
      |(have ep:=hid df
        clear df I tj;go_wp2_with (go_at_call 159;refine (ch.out _).mono ?_;rintro y w1 ⟨rfl,ak⟩;obtain⟨cx,gQ⟩:=Kept.cells ak;have cb:=ak.size;(try simp at cb))
        go_roundw
        case rel=>exact⟨i+1,b9,cL,max an fJ,aD,by go_num,(by with_reducible repeat first|exact .refl _|assumption|refine .drew ?_|refine .alloc ?_ _|refine .setCell ?_ (by (try simp only);omega) _|refine .trans ?_ ‹Kept _ _›),(fo.out _ ak).far (p:=⟨W.heap.size+1,2,none⟩) (by simp only;omega) _,(lZ.out _ ak).aP 2 _,⟨by omega,by omega⟩,ep.out⟩
        case measure=>simp[intOf];omega)
     ·first
      |(exfalso;omega)
      |(have ep:=hid df
        have Ld:i=0∨an<fJ:=hp;rcases (show ((i:Int)==0)=true∨(((i:Int)==0)=false∧an<fJ) by simp;omega)with aC|⟨aC,aM⟩
        all_goals
         clear df I tj hp Ld;go_wp2_with (go_at_call 159;refine (ch.out _).mono ?_;rintro y w1 ⟨rfl,ak⟩;obtain⟨cx,gQ⟩:=Kept.cells ak;have cb:=ak.size;(try simp at cb))
         go_roundw
         case rel=>exact⟨i+1,cy,uG,fJ,aD,by go_num,(by with_reducible repeat first|exact .refl _|assumption|refine .drew ?_|refine .alloc ?_ _|refine .setCell ?_ (by (try simp only);omega) _|refine .trans ?_ ‹Kept _ _›),(((fo.out _ ak).far (p:=⟨W.heap.size+1,0,none⟩) (by simp only;omega) _).far (p:=⟨W.heap.size+1,1,none⟩) (by simp only;omega) _).far (p:=⟨W.heap.size+1,2,none⟩) (by simp only;omega) _,(((lZ.out _ ak).aP 0 _).aP 1 _).aP 2 _,⟨by omega,by omega⟩,ep.out⟩
         case measure=>simp[intOf];omega)
     ·first
      |(exfalso;omega)
      |(have ep:=hid df
        have aC:((i:Int)==0)=false:=by simp;omega
        have Ld:¬an<fJ:=ua;clear df I tj hp ua;go_wp2_with (go_at_call 159;refine (ch.out _).mono ?_;rintro y w1 ⟨rfl,ak⟩;obtain⟨cx,gQ⟩:=Kept.cells ak;have cb:=ak.size;(try simp at cb))
        go_roundw
        case rel=>exact⟨i+1,b9,cL,an,aD,by go_num,(by with_reducible repeat first|exact .refl _|assumption|refine .drew ?_|refine .alloc ?_ _|refine .setCell ?_ (by (try simp only);omega) _|refine .trans ?_ ‹Kept _ _›),fo.out _ ak,lZ.out _ ak,⟨by omega,by omega⟩,ep.out⟩
        case measure=>simp[intOf];omega)
    ·have aX:=dd.out;rw[LS dO.out,if_pos (.inl (by omega))]at aX;obtain⟨rfl,rfl,rfl,rfl⟩:=h7 aX.symm;have rR:¬((k:Int)<m.length):=by omega
     clear aX PJ;go_wp2_with fail
     have xZ:=(((cm.aP 0 ()).aP 1 ()).aP 2 ()).cell;exact bodyPost_ret (v:= .tuple #[.agg #[(),(),()],.int .i64 6]) (by simp[results,results164,go_sem,xZ]) rfl ⟨rfl,(by with_reducible repeat first|exact .refl _|assumption|refine .drew ?_|refine .alloc ?_ _|refine .setCell ?_ (by (try simp only);omega) _|refine .trans ?_ ‹Kept _ _›)⟩
   ·have c6:¬((i:Int)<n):=by omega
    have aX:((⟨b9,cL,an⟩:bg),(0:Int))=(⟨eX,gw,dw⟩,rc):=by rw[←aG,List.drop_eq_nil_iff.2 (by have:=bk.out;omega)];rfl
    obtain⟨rfl,rfl,rfl,rfl⟩:=h7 aX;clear aX aG;go_wp2_with fail
    have xZ:=(((cm.aP 0 b9).aP 1 cL).aP 2 an).cell;exact bodyPost_ret (v:= .tuple #[.agg #[b9,cL,an],()]) (by simp[results,results164,go_sem,xZ]) rfl ⟨rfl,(by with_reducible repeat first|exact .refl _|assumption|refine .drew ?_|refine .alloc ?_ _|refine .setCell ?_ (by (try simp only);omega) _|refine .trans ?_ ‹Kept _ _›)⟩
end Go.Proofs.YtobpgndkciofhaaGreatDoor
