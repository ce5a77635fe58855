import Derived.Test.YtobpgndkciofhaaGreatDoorM
set_option linter.all false
namespace Go.Proofs.YtobpgndkciofhaaGreatDoor
open Go.RowKit Go.Proofs.Tryz
open Go.Lib (hid)
set_option maxRecDepth 100000
set_option maxHeartbeats 16000000
def oT (d:Int) (l:List bf):Nat:=(l.filter fun r=>decide (r.bK=d)).length
theorem U' {d:Int} {l:List bf} {j:Nat} {r:bf} (h:l[j]?=some r):oT d (l.take (j+1))=oT d (l.take j)+if r.bK=d then 1 else 0:=by
 obtain⟨aB,rfl⟩:=b8 h;unfold oT;rw[List.take_succ_eq_append_getElem aB,List.filter_append,List.length_append,List.filter_cons,List.filter_nil];by_cases av:(l[j]).bK=d<;>simp[av]
theorem U_ {d:Int} {l:List bf} {j:Nat}:oT d (l.take j)≤j:=by
 unfold oT;exact Nat.le_trans (List.length_filter_le _ _) (by rw[List.length_take];omega)
def uZ (s:bP) (i:Nat) (r:bf):Prop:=r.bD= -1∨(0≤r.bD∧r.bD<i∧∀p,s.rs[r.bD.toNat]?=some p→p.bK=r.bK)
structure tL (iM:jl) (s:bP) (i:Nat) (r:bf):Prop where
 id:lr (L r.ag)=true
 yG:eS r.ag ((s.rs.take i).map (·.ag))=false
 bK:0≤r.bK∧r.bK<s.ds.length
 bD:uZ s i r
 fa:0≤r.fa∧r.fa≤9
 uF:0≤r.dH∧r.dH<r.dB∧r.dB≤109573
 gX:oT r.bK (s.rs.take i)<8
 vZ:ID r.src=true
 GV:0<r.g.length→q1 iM r.g=(⟨1,0⟩,0)
 fA:∀f,s.ds[r.bK.toNat]?=some f→q1 iM r.v=(jG f,0)
theorem adg (bo b6 bA b2:Value) (s:bP) (iM:jl) (i:Nat) (r:bf) (w:World) (bC:cH 3 fL w bo s.ins) (b':cH 3 fL w b6 s.ds) (nn:cH 9 mv w bA s.rs) (bj:nO w b2 iM) (aH:s.rs[i]?=some r):
  Calls prog 96 #[.agg #[s.ag,s.ms,bo,b6,bA],i,b2] w (jo (tL iM s i r) w):=by
 have fP:=(b8 aH).1;obtain⟨jy,ou,rfl,PV,hnr,YJ⟩:=id nn;have mX:=hid (fun g w1 (h:Kept w w1) (bM:jC w1 g 0 r.ag)=>(by
  have I:cH 9 mv w1 (.slice jy i ou) (s.rs.take i):=by
   have U:=nn.kept mv.kept h;obtain⟨nE,gf,he,-,-,hx'⟩:=U
   cases he;refine⟨jy,ou,by rw[List.length_take,Nat.min_eq_left (by omega)],by rw[List.length_take];omega,by rw[List.length_take];omega,fun hp=> ?_⟩;rw[List.length_take]at hp;obtain⟨b,off,aK,J,ah⟩:=hx' (by omega);refine⟨b,off,aK,J,fun j x aB=>ah j x ?_⟩;rw[List.getElem?_take]at aB;split at aB
   ·exact aB
   ·cases aB
  exact adX _ _ g 0 r.ag w1 I bM:Calls prog 121 #[.slice jy i ou,.func (.func 122) #[] #[.pointer (some ⟨g,0,none⟩)]] w1 (gW (eS r.ag ((s.rs.take i).map (·.ag))) w1)))
 unfold gW at mX;obtain⟨b,off,rfl,J,ah⟩:=YJ (by omega);obtain⟨⟨b5,iA⟩,⟨aC,bY⟩,⟨aM,bc⟩,⟨a1,eh⟩,⟨bN,dy⟩,⟨bJ,c9⟩,⟨_,eQ,ai⟩,⟨_,kv,ay⟩,⟨kx,Qu⟩⟩:=ah i _ aH;have dO:=hid (fun w1 (h:Kept w w1)=>U8 _ r.g b2 iM 1 0 w1 (ai.kept h) (bj.kept h));have eU:=hid (fun fb e9 w1 (h:Kept w w1)=>U8 _ r.v b2 iM fb e9 w1 (ay.kept h) (bj.kept h));unfold jo at dO eU;obtain⟨jg,gc,rfl,-⟩:=ai.1.at_;obtain⟨iS,gx,rfl,-⟩:=ay.1.at_;have uO:=hid (fun w1=>HX r.ag iA w1);have zn:=hid (fun w1=>akk r.src w1 Qu);unfold gW at zn;obtain⟨gN,gS,rfl,-⟩:=bC;obtain⟨fo,fS,rfl,-,kE,YH⟩:=b';obtain⟨cY,ce,cU,cW,dS,ci,gJ,b_,eH,hg,rfl,-⟩:=bj.form;obtain⟨Q,cJ⟩:∃Q,Q=tL iM s i r:=⟨_,rfl⟩;rw[←cJ];have bz:=hid cJ;unfold ed at b5 aC aM a1 bN bJ eQ kv kx;have c6:(i:Int)<s.rs.length:=by omega
 have K8:(i:Int)≤ou:=by omega
 have bI:=hid ah;have Bn:=hid YH;have nJ:=hid aH;generalize qI:r.g.length=ox at*;generalize r.v.length=fA at*;generalize l':s.rs.length=c' at*;generalize s.ins.length=b1 at*;generalize yo:s.ds.length=cS at*;generalize iM.ms.length=dN at*;generalize iM.tb.length=dh at*;generalize iM.ins.length=anS at*;generalize iM.ds.length=anT at*;generalize iM.md.length=ew at*;clear nn YJ bj ai ay cJ ah YH aH;go_enter func96,ntmps96
 go_upto_region 2 with fail
 generalize ar:((w.alloc _).alloc _).alloc _=W at*;obtain⟨aW,aS,aT,bU⟩:=Kept.b7 ar;clear ar;obtain⟨Oh,Oj⟩:=aS.p;have dD:=hid (fun w1 (h:Kept W w1)=>aS.kept h);have dr:=hid (fun w1 (h:Kept W w1)=>aT.kept h);have ji:=hid (fun w1 (h:Kept W w1)=>bU.kept h);clear aS aT bU;go_wp2_with fail
 clear Oh Oj;go_loopw [8,22] (fun z y wr=>∃j:Nat,y= .int .i64 j∧z= .int .i64 (oT r.bK (s.rs.take j))∧j≤i∧Kept W wr) (fun _ y _=>i-(intOf y).toNat)
 case atStart=>exact⟨0,rfl,rfl,Nat.zero_le _,aQ _⟩
 case round=>
  obtain⟨j,rfl,rfl,gu,ab⟩:=hrel;by_cases aD:j<i
  ·have ai:s.rs[j]?=some (s.rs[j]'(by omega)):=a8 _;obtain⟨⟨d0,-⟩,⟨d1,-⟩,⟨d2,-⟩,⟨d3,-⟩,⟨d4,-⟩,⟨d5,-⟩,⟨_,d6,⟨⟨aod,GV,rfl,-⟩,-⟩⟩,⟨_,d7,⟨⟨JP,uF,rfl,-⟩,-⟩⟩,⟨d8,-⟩⟩:=bI.out j _ ai;unfold ed at d0 d1 d2 d3 d4 d5 d6 d7 d8;have ep:=hid (U' (d:=r.bK) ai);have oY:oT r.bK (s.rs.take j)≤j:=U_;generalize s.rs[j]'(by omega)=x at*;generalize x.g.length=xgl at*;generalize x.v.length=xvl at*;have bu:=aW.trans ab;replace d0:=bu.ad J d0;replace d1:=bu.ad J d1;replace d2:=bu.ad J d2;replace d3:=bu.ad J d3;replace d4:=bu.ad J d4;replace d5:=bu.ad J d5;replace d6:=bu.ad J d6;replace d7:=bu.ad J d7;replace d8:=bu.ad J d8;have rI:=bd J bu.size;have b7:=(ji.out _ ab).cell 1;have m3:=(ji.out _ ab).lt;have hE:(j:Int)<i:=by omega
   generalize oT r.bK (s.rs.take j)=GA at*;have alx:(GA:Int)+1≤9223372036854775807:=by omega
   clear ai bu;by_cases av:x.bK=r.bK
   ·have pO:(x.bK==r.bK)=true:=by simpa using av
    have ob:=hid (show oT r.bK (s.rs.take (j+1))=GA+1 by rw[ep.out,if_pos av]);clear av;go_wp2_with fail
    go_roundw
    case rel=>exact⟨j+1,by go_num,by rw[ob.out];go_num,aD,ab.alloc _⟩
    case measure=>simp[intOf];omega
   ·have pO:(x.bK==r.bK)=false:=by simpa using av
    have ob:=hid (show oT r.bK (s.rs.take (j+1))=GA by rw[ep.out,if_neg av];rfl);clear av;go_wp2_with fail
    go_roundw
    case rel=>exact⟨j+1,by go_num,by rw[ob.out],aD,ab.alloc _⟩
    case measure=>simp[intOf];omega
  ·obtain rfl:j=i:=by omega
   have hE:¬((j:Int)<j):=by omega
   have oY:oT r.bK (s.rs.take j)≤j:=U_;generalize w3:oT r.bK (s.rs.take j)=GA at*;have C3:=hid w3;clear w3;have dX:=hid (fun (c:Int) (ah:c≠0) (h:¬tL iM s j r)=>(show c=0↔Q from⟨fun e=>absurd e ah,fun q=>absurd (bz.out▸q) h⟩));have bB:=aW.trans ab;have az:=(dD.out _ ab).cell;have m1:=(dD.out _ ab).lt;have b7:=(ji.out _ ab).cell;have m3:=(ji.out _ ab).lt
   cases jJ:lr (L r.ag)
   ·rw[jJ]at uO;go_wp2_with (go_at_call 60;refine (uO.out _).mono ?_;rintro e w1 ⟨rfl,rfl⟩)
    go_ret;exact jo.mk (dX.out 2 (by decide) (fun h=>by have:=h.id;rw[jJ]at this;cases this)) bB
   rw[jJ]at uO;go_upto_region 11 with (go_at_call 60;refine (uO.out _).mono ?_;rintro e w1 ⟨rfl,rfl⟩)
   have Dc:=hid (show jC wr (w.heap.size+1+1) 0 r.ag from⟨m3,b7 0⟩)
   cases jK:eS r.ag ((s.rs.take j).map (·.ag))
   case true=>
    rw[jK]at mX;go_wp2_with (go_at_call 121;refine (mX.out _ _ bB Dc.out).mono ?_;rintro e w1 ⟨rfl,ak⟩)
    go_ret;exact jo.mk (dX.out 7 (by decide) (fun h=>by have:=h.yG;rw[jK]at this;cases this)) (bB.trans ak)
   rw[jK]at mX;go_upto_region 13 with (go_at_call 121;refine (mX.out _ _ bB Dc.out).mono ?_;rintro e w1 ⟨rfl,ak⟩)
   have bR:=bB.trans ak;have a':=ab.trans ak;clear az m1 b7 m3;have az:=(dD.out _ a').cell;have m1:=(dD.out _ a').lt;have b7:=(ji.out _ a').cell;have m3:=(ji.out _ a').lt;clear mX uO Dc bB ab;by_cases ae:r.bK<0
   ·go_wp2_with fail
    go_ret;exact jo.mk (dX.out 6 (by decide) (fun h=>by have:=h.bK;omega)) bR
   by_cases h3b:(cS:Int)≤r.bK
   ·go_wp2_with fail
    go_ret;exact jo.mk (dX.out 6 (by decide) (fun h=>by have:=h.bK;omega)) bR
   go_upto_region 15 with fail
   go_cut [58] (fun z bt=>∃dA:Bool,z= .bool dA∧Kept w1 bt∧(dA=false↔uZ s j r))
   case first=>
    by_cases hp:r.bD= -1
    ·have ma:(r.bD != -1)=false:=by simpa using hp
     have aV:Hid (uZ s j r):=hid (Or.inl hp);clear hp;go_region
     go_wp2_with fail
     go_meet;exact⟨false,rfl,(aQ _).drew,fun _=>aV.out,fun _=>rfl⟩
    have ma:(r.bD != -1)=true:=by simpa using hp
    by_cases Ey:r.bD<0
    ·have aV:Hid (¬uZ s j r):=hid (fun h=>by unfold uZ at h;omega);clear hp;go_region
     go_wp2_with fail
     go_meet;exact⟨true,rfl,(aQ _).drew,(fun h=>by cases h),fun h=>absurd h aV.out⟩
    by_cases Qh:(j:Int)≤r.bD
    ·have aV:Hid (¬uZ s j r):=hid (fun h=>by unfold uZ at h;omega);clear hp;go_region
     go_wp2_with fail
     go_meet;exact⟨true,rfl,(aQ _).drew,(fun h=>by cases h),fun h=>absurd h aV.out⟩
    obtain⟨k,aa⟩:∃k:Nat,r.bD=k:=⟨r.bD.toNat,by omega⟩;have j8:k<s.rs.length:=by omega
    have ai:s.rs[k]?=some s.rs[k]:=a8 j8;obtain⟨-,⟨d1,-⟩,-⟩:=bI.out k _ ai;unfold ed at d1;have oQ:Hid (uZ s j r↔s.rs[k].bK=r.bK):=hid (by
     unfold uZ;rw[aa,Int.toNat_natCast,ai];simp;omega)
    have jI:(k:Int)<c':=by omega
    generalize s.rs[k].bK=Ir at*;have rI:=bd J bR.size;replace d1:=bR.ad J d1;rw[aa]at ma Ey Qh b7;clear hp ai;by_cases av:Ir=r.bK
    ·have pO:(Ir !=r.bK)=false:=by simpa using av
     have aV:Hid (uZ s j r):=hid (oQ.out.2 av);clear av oQ;go_region
     go_wp2_with fail
     go_meet;exact⟨false,rfl,(aQ _).drew,fun _=>aV.out,fun _=>rfl⟩
    ·have pO:(Ir !=r.bK)=true:=by simpa using av
     have aV:Hid (¬uZ s j r):=hid (fun h=>av (oQ.out.1 h));clear av oQ;go_region
     go_wp2_with fail
     go_meet;exact⟨true,rfl,(aQ _).drew,(fun h=>by cases h),fun h=>absurd h aV.out⟩
   case rest=>
    obtain⟨dA,rfl,cG,nu⟩:=hcut;have TN:=hid nu;clear nu;have eO:=bR.trans cG;have cQ:=a'.trans cG;clear az m1 b7 m3 ak a' bR;have az:=(dD.out _ cQ).cell;have m1:=(dD.out _ cQ).lt;have b7:=(ji.out _ cQ).cell;have m3:=(ji.out _ cQ).lt
    cases dA
    case true=>
     go_wp2_with fail
     go_ret;exact jo.mk (dX.out 9 (by decide) (fun h=>absurd (TN.out.2 h.bD) (by decide))) eO
    by_cases bp:r.fa<0
    ·go_wp2_with fail
     go_ret;exact jo.mk (dX.out 3 (by decide) (fun h=>by have:=h.fa;omega)) eO
    by_cases h5b:9<r.fa
    ·go_wp2_with fail
     go_ret;exact jo.mk (dX.out 3 (by decide) (fun h=>by have:=h.fa;omega)) eO
    go_upto_region 19 with fail
    by_cases eJ:r.dH<0
    ·go_wp2_with fail
     go_ret;exact jo.mk (dX.out 3 (by decide) (fun h=>by have:=h.uF;omega)) eO
    by_cases h6b:r.dB≤r.dH
    ·go_wp2_with fail
     go_ret;exact jo.mk (dX.out 3 (by decide) (fun h=>by have:=h.uF;omega)) eO
    by_cases h6c:109573<r.dB
    ·go_wp2_with fail
     go_ret;exact jo.mk (dX.out 3 (by decide) (fun h=>by have:=h.uF;omega)) eO
    go_upto_region 21 with fail
    by_cases kc:(8:Int)≤GA
    ·go_wp2_with fail
     go_ret;exact jo.mk (dX.out 4 (by decide) (fun h=>by have:=h.gX;rw[C3.out]at this;omega)) eO
    go_upto_region 23 with fail
    cases Lg:ID r.src
    ·rw[Lg]at zn;go_wp2_with (go_at_call 123;refine (zn.out _).mono ?_;rintro e cf ⟨rfl,eW⟩)
     go_ret;exact jo.mk (dX.out 2 (by decide) (fun h=>by have:=h.vZ;rw[Lg]at this;cases this)) (eO.trans eW)
    rw[Lg]at zn;go_upto_region 25 with (go_at_call 123;refine (zn.out _).mono ?_;rintro e cf ⟨rfl,eW⟩)
    have su:=eO.trans eW;have rY:=cQ.trans eW;clear az m1 b7 m3 cG cQ eW eO;have az:=(dD.out _ rY).cell;have m1:=(dD.out _ rY).lt;have a6:=(dr.out _ rY).cell;have m2:=(dr.out _ rY).lt;have b7:=(ji.out _ rY).cell;have m3:=(ji.out _ rY).lt;obtain⟨k,aa⟩:∃k:Nat,r.bK=k:=⟨r.bK.toNat,by omega⟩;have j8:k<s.ds.length:=by omega
    obtain⟨wP,ak9,rfl,pO,Ho⟩:=Bn.out (by omega);have K6:s.ds[k]?=some s.ds[k]:=a8 j8;obtain⟨-,⟨f1,-⟩,⟨f2,-⟩⟩:=Ho k _ K6;unfold ed at f1 f2;have xP:=hid (fun (tT:0<r.g.length→q1 iM r.g=(⟨1,0⟩,0)) (c:Int) (ah:c=0↔q1 iM r.v=(⟨s.ds[k].k,s.ds[k].e⟩,0))=>(show c=0↔Q by
     rw[ah,bz.out];constructor
     ·intro h;exact⟨jJ,jK,by omega,TN.out.1 trivial,by omega,by omega,by rw[C3.out];omega,Lg,tT,fun f bO=>by rw[aa,Int.toNat_natCast,K6]at bO;obtain rfl:=Option.some.inj bO;exact h⟩
     ·intro h;exact h.fA _ (by rw[aa,Int.toNat_natCast];exact K6)))
    generalize s.ds[k].k=GR at*;generalize s.ds[k].e=GQ at*;have du:=hid aa;have jI:(k:Int)<cS:=by omega
    have C4:=hid qI;clear K6 Ho aa qI;by_cases tT:0<ox
    case' pos=>
     have h9i:(0:Int)<ox:=by omega
     go_upto_region 27 with (go_at_call 124;refine (dO.out _ su).mono ?_;rintro e dV ⟨eZ,rfl,W2,sX⟩)
     have S9:=hid W2;clear W2;by_cases KC:eZ=0
     case neg=>
      have alc:(eZ !=0)=true:=by simpa using KC
      go_wp2_with fail
      go_ret;exact jo.mk (dX.out eZ KC (fun h=>KC (S9.out.2 (h.GV (by rw[C4.out];exact tT))))) (su.trans sX)
     subst KC;have l0:Hid (0<r.g.length→q1 iM r.g=(⟨1,0⟩,0)):=hid (fun _=>S9.out.1 rfl);have F_:=su.trans sX;have EX:=rY.trans sX;clear az m1 a6 m2 b7 m3 sX su rY;go_upto_region 29 with fail
     generalize dV=hN at*
    case' neg=>
     have h9i:¬((0:Int)<ox):=by omega
     have l0:Hid (0<r.g.length→q1 iM r.g=(⟨1,0⟩,0)):=hid (fun h=>absurd h (by rw[C4.out];exact tT));have F_:=su;have EX:=rY;go_upto_region 29 with fail
     clear az m1 a6 m2 b7 m3 su rY;generalize cf=hN at*
    all_goals
     have ee:=dD.out _ EX;have fW:=dr.out _ EX;have mS:=ji.out _ EX;have z3:=al.cell ee.lt (ee.cell 3);have u0:=al.cell fW.lt (fW.cell 0);have u1:=al.cell fW.lt (fW.cell 1);have u2:=al.cell fW.lt (fW.cell 2);have u3:=al.cell fW.lt (fW.cell 3);have u4:=al.cell fW.lt (fW.cell 4);have u5:=al.cell fW.lt (fW.cell 5);have v1:=al.cell mS.lt (mS.cell 1);have sb:=al.cell mS.lt (mS.cell 7);have Xa:=bd pO F_.size;have g1:=al.cell Xa (F_.ad pO f1);have g2:=al.cell Xa (F_.ad pO f2);simp only[du.out]at v1;refine v8 10 (by kernel_rfl) (by kernel_rfl) ?_;simp only[List.take_succ_cons,List.take_zero,List.drop_succ_cons,List.drop_zero]
     repeat (go_big_quiet_step (fail))
     refine wpQuiet_nil ?_;rintro jT ⟨⟨bt,cj⟩,bb⟩;obtain rfl:jT=bt:=bb;clear z3 u0 u1 u2 u3 u4 u5 v1 sb g1 g2 ee fW mS;have nL:=F_.trans cj;go_wp2_with (go_at_call 124;refine (eU.out GR GQ _ nL).mono ?_;rintro e ta ⟨c,rfl,ah,sX⟩;have C2:=hid ah)
     go_ret;exact jo.mk (xP.out l0.out c C2.out) (nL.trans sX)
def uA:List Int→Int→Int×Int
 |[],t=>(t,0)
 |c::r,t=>if ix c 1000000000000000=true then (0,3)else if ix (t+c) 1000000000000000=true then (0,3)else uA r (t+c)
theorem aaV {n:Int} (h:ix n 1000000000000000=false): -1000000000000000≤n∧n≤1000000000000000:=by
 unfold ix at h;simp at h;omega
def smP (R:Int×Int) (w:World) (e:Ending) (w':World):Prop:=e= .returned (.tuple #[R.1,R.2])∧Kept w w'
theorem ajo (v:Value) (xs:List Int) (w:World) (c5:fC w v xs) (aq:xs.length≤8796093022208):Calls prog 30 #[v] w (smP (uA xs 0) w):=by
 obtain⟨A,cap,rfl,aK⟩:=c5.at_;have cg:=hid (fun (n:Int) w1=>ui n 1000000000000000 w1 (by omega));obtain⟨R,aw⟩:∃R,uA xs 0=R:=⟨_,rfl⟩;rw[aw];have aI:=hid aw;have dW:=hid aK;generalize aA:xs.length=n at*;have bk:=hid aA;clear aw aK aA c5;go_enter func30,ntmps30
 go_wp2_with fail
 go_loopw [4,9] (fun z y wr=>∃(i:Nat) (t:Int),z= .int .i64 t∧y= .int .i64 i∧i≤n∧Kept w wr∧(-1000000000000000≤t∧t≤1000000000000000)∧uA (xs.drop i) t=R) (fun _ y _=>n-(intOf y).toNat)
 case atStart=>exact⟨0,0,rfl,rfl,Nat.zero_le _,aQ _,by omega,aI.out⟩
 case round=>
  obtain⟨i,t,rfl,rfl,de,ab,bS,aG⟩:=hrel;by_cases aD:i<n
  ·obtain⟨b,o,rfl,J,ah⟩:=dW.out (by omega);have ai:xs[i]?=some (xs[i]'(by have:=bk.out;omega)):=a8 _;have t0:=ab.ad J (ah i _ ai);have oW:=bd J ab.size;rw[List.drop_eq_getElem_cons (by have:=bk.out;omega),uA]at aG;generalize xs[i]'(by have:=bk.out;omega)=c at*;have c6:(i:Int)<n:=by omega
   have ns:(i:Int)+1≤9223372036854775807:=by omega
   have dD:=cg.out c;clear ah ai
   cases I:ix c 1000000000000000
   case true=>
    rw[I]at aG dD;rw[if_pos rfl]at aG;have dr:=hid dD;have nJ:=hid aG;clear dD aG I;go_wp2_with (go_at_call 48;refine (dr.out _).mono ?_;rintro e w1 ⟨rfl,rfl⟩)
    exact bodyPost_ret (v:= .tuple #[(),.int .i64 3]) (by simp[results,results30,go_sem]) rfl (by rw[←nJ.out];exact⟨rfl,ab⟩)
   have hh:=aaV I;rw[I]at aG dD;rw[if_neg (by simp)]at aG;have S1:=hid dD;have za:=cg.out (t+c);have Ef: -9223372036854775808≤t+c:=by omega
   have ha2:t+c≤9223372036854775807:=by omega
   cases U:ix (t+c) 1000000000000000
   case true=>
    rw[U]at aG za;rw[if_pos rfl]at aG;have dr:=hid za;have nJ:=hid aG;clear dD za aG I U bS hh;go_wp2_with (first|(go_at_call_of 48 (Value.int IntKind.i64 c);refine (S1.out _).mono ?_;rintro e w1 ⟨rfl,rfl⟩)|(go_at_call_of 48 (Value.int IntKind.i64 (t+c));refine (dr.out _).mono ?_;rintro e w2 ⟨rfl,rfl⟩))
    exact bodyPost_ret (v:= .tuple #[(),.int .i64 3]) (by simp[results,results30,go_sem]) rfl (by rw[←nJ.out];exact⟨rfl,ab⟩)
   have W5:=aaV U;rw[U]at aG za;rw[if_neg (by simp)]at aG;have dr:=hid za;have nJ:=hid aG;have HTB:=hid W5;clear dD za aG I U bS hh W5;go_wp2_with (first|(go_at_call_of 48 (Value.int IntKind.i64 c);refine (S1.out _).mono ?_;rintro e w1 ⟨rfl,rfl⟩)|(go_at_call_of 48 (Value.int IntKind.i64 (t+c));refine (dr.out _).mono ?_;rintro e w2 ⟨rfl,rfl⟩))
   go_roundw
   case rel=>exact⟨i+1,t+c,rfl,by go_num,aD,ab,HTB.out,nJ.out⟩
   case measure=>simp[intOf];omega
  ·obtain rfl:i=n:=by omega
   have c6:¬((i:Int)<i):=by omega
   rw[List.drop_eq_nil_iff.2 (by rw[bk.out];exact Nat.le_refl _),uA]at aG;have nJ:=hid aG;clear aG bS;go_wp2_with fail
   exact bodyPost_ret (v:= .tuple #[t,()]) (by simp[results,results30,go_sem]) rfl (by rw[←nJ.out];exact⟨rfl,ab⟩)
end Go.Proofs.YtobpgndkciofhaaGreatDoor
