import Derived.Test.YtilhklpfkgbikaaGreatDoorL
set_option linter.all false
namespace Go.Proofs.YtilhklpfkgbikaaGreatDoor
open Go.RowKit Go.Proofs.Tryz
set_option maxRecDepth 100000
set_option maxHeartbeats 8000000
def Bz(o n:J)(a b:bC)(r:bC×J):Prop:=
 ∀w,bg 186 #[aF #[o,n],aF #[a.k,a.e,a.n],aF #[b.k,b.e,b.n]] w λx w'=>x=bL (bj #[aF #[r.1.k,r.1.e,r.1.n],r.2])/\Kept w w'
def EB{v:bC}(h:iv v=true): -1000000000000000<=v.n/\v.n<=1000000000000000/\(v.k=2-> -1000000000000<=v.n/\v.n<=1000000000000):=by
 unfold iv at h;simp at h;omega
def aoB(n dD e4 an hc be ew:J)(bD: -1000000000000000<=an/\an<=1000000000000000)(af: -1000000000000<=ew/\ew<=1000000000000):∃r,Bz 13 n ⟨dD,e4,an⟩ ⟨hc,be,ew⟩ r:=by
 obtain⟨q,cF,az,iW⟩:=anJ an ew bD af;have cU:=I iW;clear iW;refine⟨(⟨dD,0,q⟩,cF),λw=> ?_⟩;go_enter func186,ntmps186
 go_wp2_with (go_at_call 203;refine (cU _).mono ?_;rintro e w1⟨rfl,au⟩;obtain⟨dE,jk⟩:=Kept.cells au;have cG:=au.size;(try simp at cG))
 exact bI (v:=bj #[aF #[dD,(),q],cF]) (by simp[results,results186,go_sem,dE]) rfl ⟨rfl,(aG _).aZ.aZ.aZ.aZ.aZ.trans au|>.sc (by omega)|>.sc (by omega)|>.sc (by omega)|>.sc (by omega)⟩
def aoC(n dD e4 an hc be ew:J)(bD:iT an)(af:iT ew)(ai:dD=3):∃r,Bz 14 n ⟨dD,e4,an⟩ ⟨hc,be,ew⟩ r:=by
 obtain⟨q,cF,az,iW⟩:=anK an ew n bD af;have cU:=I iW;clear iW;subst ai;refine⟨(⟨3,0,q⟩,cF),λw=> ?_⟩;go_enter func186,ntmps186
 go_wp2_with (go_at_call 204;refine (cU _).mono ?_;rintro e w1⟨rfl,au⟩;obtain⟨dE,jk⟩:=Kept.cells au;have cG:=au.size;(try simp at cG))
 exact bI (v:=bj #[aF #[ah 3,(),q],cF]) (by simp[results,results186,go_sem,dE]) rfl ⟨rfl,(aG _).aZ.aZ.aZ.aZ.aZ.trans au|>.sc (by omega)|>.sc (by omega)|>.sc (by omega)|>.sc (by omega)⟩
def aoD(n dD e4 an hc be ew:J)(ai:¬dD=3):∃r,Bz 14 n ⟨dD,e4,an⟩ ⟨hc,be,ew⟩ r:=by
 obtain⟨q,cF,az,iW⟩:=an7 an ew n;have cU:=I iW;clear iW;refine⟨(⟨dD,0,q⟩,cF),λw=> ?_⟩;go_enter func186,ntmps186
 go_wp2_with (go_at_call 205;refine (cU _).mono ?_;rintro e w1⟨rfl,au⟩;obtain⟨dE,jk⟩:=Kept.cells au;have cG:=au.size;(try simp at cG))
 exact bI (v:=bj #[aF #[dD,(),q],cF]) (by simp[results,results186,go_sem,dE]) rfl ⟨rfl,(aG _).aZ.aZ.aZ.aZ.aZ.trans au|>.sc (by omega)|>.sc (by omega)|>.sc (by omega)|>.sc (by omega)⟩
def aoE(n dD e4 an hc be ew:J)(bD:iT an)(af:iT ew)(ai:hc=2):∃r,Bz 15 n ⟨dD,e4,an⟩ ⟨hc,be,ew⟩ r:=by
 obtain⟨q,cF,az,iW⟩:=Qf an ew n bD af;have cU:=I iW;clear iW;subst ai;refine⟨(⟨dD,0,q⟩,cF),λw=> ?_⟩;go_enter func186,ntmps186
 go_wp2_with (go_at_call 199;refine (cU _).mono ?_;rintro e w1⟨rfl,au⟩;obtain⟨dE,jk⟩:=Kept.cells au;have cG:=au.size;(try simp at cG))
 exact bI (v:=bj #[aF #[dD,(),q],cF]) (by simp[results,results186,go_sem,dE]) rfl ⟨rfl,(aG _).aZ.aZ.aZ.aZ.aZ.trans au|>.sc (by omega)|>.sc (by omega)|>.sc (by omega)|>.sc (by omega)⟩
def aoF(n dD e4 an hc be ew:J)(ai:¬hc=2):∃r,Bz 15 n ⟨dD,e4,an⟩ ⟨hc,be,ew⟩ r:=by
 obtain⟨q,cF,az,iW⟩:=ajt an ew n;have cU:=I iW;clear iW;refine⟨(⟨4,0,q⟩,cF),λw=> ?_⟩;go_enter func186,ntmps186
 go_wp2_with (go_at_call 207;refine (cU _).mono ?_;rintro e w1⟨rfl,au⟩;obtain⟨dE,jk⟩:=Kept.cells au;have cG:=au.size;(try simp at cG))
 exact bI (v:=bj #[aF #[ah 4,(),q],cF]) (by simp[results,results186,go_sem,dE]) rfl ⟨rfl,(aG _).aZ.aZ.aZ.aZ.aZ.trans au|>.sc (by omega)|>.sc (by omega)|>.sc (by omega)|>.sc (by omega)⟩
def aoG(n dD e4 an hc be ew:J)(bD:iT an)(af:iT ew):∃r,Bz 16 n ⟨dD,e4,an⟩ ⟨hc,be,ew⟩ r:=by
 obtain⟨q,cF,az,iW⟩:=an9 an ew n bD af;have cU:=I iW;clear iW;refine⟨(⟨dD,0,q⟩,cF),λw=> ?_⟩;go_enter func186,ntmps186
 go_wp2_with (go_at_call 206;refine (cU _).mono ?_;rintro e w1⟨rfl,au⟩;obtain⟨dE,jk⟩:=Kept.cells au;have cG:=au.size;(try simp at cG))
 exact bI (v:=bj #[aF #[dD,(),q],cF]) (by simp[results,results186,go_sem,dE]) rfl ⟨rfl,(aG _).aZ.aZ.aZ.aZ.aZ.trans au|>.sc (by omega)|>.sc (by omega)|>.sc (by omega)|>.sc (by omega)⟩
def aoH(o n:J)(a b:bC)(aA:13<=o/\o<=16)(bJ:iv a=true)(j1:iv b=true)(af:yD o a b=true):∃r,Bz o n a b r:=by
 obtain⟨dD,e4,an⟩:=a;obtain⟨hc,be,ew⟩:=b;have JQ:=EB bJ;have tl:=EB j1;have Ju:iT an:=⟨by simp at JQ;omega,by simp at JQ;omega⟩;have GH:iT ew:=⟨by simp at tl;omega,by simp at tl;omega⟩;obtain rfl|rfl|rfl|rfl:o=13\/o=14\/o=15\/o=16:=by omega
 .exact aoB n dD e4 an hc be ew ⟨JQ.1,JQ.2.1⟩ (tl.2.2 (by unfold yD at af;simp at af;exact af.1))
 .by_cases h:dD=3
  .exact aoC n dD e4 an hc be ew Ju GH h
  .exact aoD n dD e4 an hc be ew h
 .by_cases h:hc=2
  .exact aoE n dD e4 an hc be ew Ju GH h
  .exact aoF n dD e4 an hc be ew h
 .exact aoG n dD e4 an hc be ew Ju GH
open Classical in
noncomputable def rK(x:cw)(a b:bC):bC×J:=if h:∃r,Bz x.o x.n a b r then Classical.choose h else (v0,0)
def aox{x:cw}{a b:bC}(aA:13<=x.o/\x.o<=16)(bJ:iv a=true)(j1:iv b=true)(af:yD x.o a b=true):Bz x.o x.n a b (rK x a b):=by
 have h:=aoH x.o x.n a b aA bJ j1 af;unfold rK;rw[dif_pos h];exact Ot h
def aqn(o k e n:J)(aA:o=10\/o=25\/o=31\/o=32)(bJ:iv ⟨k,e,n⟩=true)(w:ag)(bN:Mon w):bg 176 #[o,aF #[k,e,n]] w λx w'=>x=bL (aF #[ah (Hb o ⟨k,e,n⟩).k,ah (Hb o ⟨k,e,n⟩).e,ah (Hb o ⟨k,e,n⟩).n])/\Kept w w':=by
 obtain⟨bd,a8,-⟩:=EB bJ;simp only at bd a8;have cU:=I (λw bN=>SZ n w bN);have cB:=I bN;rcases aA with rfl|rfl|rfl|rfl
 .go_enter func176,ntmps176
  go_wp2_with fail
  exact bI (v:=aF #[k,(),ah (-n)]) (by simp[results,results176,go_sem]) rfl ⟨rfl,(aG _).aZ.aZ⟩
 .have c8:=I (λw=>(by rw[eqB];exact afb _ w:bg 184 #[bR (n==0)] w λx w'=>x=bL (aF #[ah 1,(),ah (rN (decide (n=0))).n])/\Kept w w'));obtain⟨z,bP⟩:∃z,z=(rN (decide (n=0))).n:=⟨_,rfl⟩;rw[<-bP]at c8;have aX:=I (show Hb 25 ⟨k,e,n⟩=⟨1,0,z⟩ by rw[bP];rfl);clear bP;rw[aX];go_enter func176,ntmps176
  go_wp2_with (go_at_call 184;refine (c8 _).mono ?_;rintro y w1⟨rfl,au⟩;obtain⟨dE,jk⟩:=Kept.cells au;have cG:=au.size;(try simp at cG))
  exact bI (v:=aF #[ah 1,(),ah z]) (by simp[results,results176,go_sem,dE]) rfl ⟨rfl,(aG _).aZ.aZ.trans au|>.sc (by omega)|>.sc (by omega)|>.sc (by omega)⟩
 .go_enter func176,ntmps176
  go_wp2_with (go_at_call 185;refine (cU _ (cB.kept ((aG _).aZ.aZ))).mono ?_;rintro y w1⟨rfl,rfl⟩)
  exact bI (v:=aF #[ah 2,(),ah (eN n).1]) (by simp[results,results176,go_sem]) rfl ⟨rfl,(aG _).aZ.aZ⟩
 .go_enter func176,ntmps176
  go_wp2_with (go_at_call 185;refine (cU _ (cB.kept ((aG _).aZ.aZ))).mono ?_;rintro y w1⟨rfl,rfl⟩)
  exact bI (v:=aF #[ah 2,(),ah (eN n).2.1]) (by simp[results,results176,go_sem]) rfl ⟨rfl,(aG _).aZ.aZ⟩
def ahw(o:J)(aA:(11<=o/\o<=22)\/(27<=o/\o<=30)):o=11\/o=27\/o=12\/o=29\/(13<=o/\o<=16)\/o=17\/o=18\/o=19\/o=20\/o=21\/o=22\/o=28\/o=30:=by omega
def vcV(r:bC×J):ak:=bj #[aF #[r.1.k,r.1.e,r.1.n],r.2]
def ahx(tO:lB->J->J->J->J×J)(o n dD e4 an hc be ew:J)(aA:(11<=o/\o<=22)\/(27<=o/\o<=30))(bJ:iv ⟨dD,e4,an⟩=true)(j1:iv ⟨hc,be,ew⟩=true)(af:yD o ⟨dD,e4,an⟩ ⟨hc,be,ew⟩=true)(w:ag)(bN:Mon w):
  bg 177 #[aF #[o,n],aF #[dD,e4,an],aF #[hc,be,ew]] w λx w'=>x=bL (vcV (pT ⟨rK,tO⟩ ⟨o,n⟩ ⟨dD,e4,an⟩ ⟨hc,be,ew⟩))/\Kept w w':=by
 obtain⟨bd,a8,-⟩:=EB bJ;obtain⟨hh,iC,-⟩:=EB j1;simp only at bd a8 hh iC;have cB:=I bN;have c8:=I (λ(b:Bool)w=>afb b w);rcases ahw o aA with rfl|rfl|rfl|rfl|h|rfl|rfl|rfl|rfl|rfl|rfl|rfl|rfl
 .clear bN bJ j1 af aA;go_enter func177,ntmps177
  go_wp2_with fail
  exact bI (v:=bj #[aF #[dD,(),ah (an+ew)],()]) (by simp[results,results177,go_sem]) rfl ⟨rfl,(aG _).aZ.aZ.aZ.aZ⟩
 .clear bN bJ j1 af aA;go_enter func177,ntmps177
  go_wp2_with fail
  exact bI (v:=bj #[aF #[dD,(),ah (an+ew)],()]) (by simp[results,results177,go_sem]) rfl ⟨rfl,(aG _).aZ.aZ.aZ.aZ⟩
 .clear bN bJ j1 af aA;go_enter func177,ntmps177
  go_wp2_with fail
  exact bI (v:=bj #[aF #[dD,(),ah (an-ew)],()]) (by simp[results,results177,go_sem]) rfl ⟨rfl,(aG _).aZ.aZ.aZ.aZ⟩
 .clear bN bJ j1 af aA;go_enter func177,ntmps177
  go_wp2_with fail
  exact bI (v:=bj #[aF #[ah 2,(),ah (ew-an)],()]) (by simp[results,results177,go_sem]) rfl ⟨rfl,(aG _).aZ.aZ.aZ.aZ⟩
 .have aO:=aox (x:=⟨o,n⟩) h bJ j1 af;have aX:=I (show pT ⟨rK,tO⟩ ⟨o,n⟩ ⟨dD,e4,an⟩ ⟨hc,be,ew⟩=rK ⟨o,n⟩ ⟨dD,e4,an⟩ ⟨hc,be,ew⟩ by
   unfold pT;rw[aw (by simp;omega),aw (by simp;omega),aP h])
  generalize rK ⟨o,n⟩ ⟨dD,e4,an⟩ ⟨hc,be,ew⟩=R at*;obtain⟨⟨cS,eo,di⟩,rc⟩:=R;have eb:=I aO;obtain⟨c9,bW,j8⟩:(o==11)=false/\(o==27)=false/\(o==12)=false:=by refine⟨?_,?_,?_⟩<;>(simp;omega)
  rw[aX];have ee:(o==13)=true\/((o==13)=false/\(o==14)=true)\/((o==13)=false/\(o==14)=false/\(o==15)=true)\/((o==13)=false/\(o==14)=false/\(o==15)=false/\(o==16)=true):=by simp;omega
  clear bN bJ j1 af aA aO h;rcases ee with h|⟨h,ad⟩|⟨h,ad,ao⟩|⟨h,ad,ao,aR⟩
  all_goals
   go_enter func177,ntmps177
   go_wp2_with (go_at_call 186;refine (eb _).mono ?_;rintro y w1⟨rfl,au⟩;obtain⟨dE,jk⟩:=Kept.cells au;have cG:=au.size;(try simp at cG))
   exact bI (v:=bj #[aF #[cS,eo,di],rc]) (by simp[results,results177,go_sem,dE]) rfl ⟨rfl,(aG _).aZ.aZ.aZ.aZ.trans au|>.sc (by omega)|>.sc (by omega)|>.sc (by omega)⟩
 .clear bN bJ j1 af aA;by_cases aN:ew<an
  .have aX:=I (show pT ⟨rK,tO⟩ ⟨17,n⟩ ⟨dD,e4,an⟩ ⟨hc,be,ew⟩=(⟨hc,be,ew⟩,0) by simp[pT,aN]);go_enter func177,ntmps177
   go_wp2_with fail
   exact bI (v:=bj #[aF #[hc,be,ew],()]) (by simp[results,results177,go_sem]) rfl ⟨by rw[aX];rfl,(aG _).aZ.aZ.aZ.aZ⟩
  .have aX:=I (show pT ⟨rK,tO⟩ ⟨17,n⟩ ⟨dD,e4,an⟩ ⟨hc,be,ew⟩=(⟨dD,e4,an⟩,0) by simp[pT,aN]);go_enter func177,ntmps177
   go_wp2_with fail
   exact bI (v:=bj #[aF #[dD,e4,an],()]) (by simp[results,results177,go_sem]) rfl ⟨by rw[aX];rfl,(aG _).aZ.aZ.aZ.aZ⟩
 .clear bN bJ j1 af aA;by_cases aN:ew<an
  .have aX:=I (show pT ⟨rK,tO⟩ ⟨18,n⟩ ⟨dD,e4,an⟩ ⟨hc,be,ew⟩=(⟨dD,e4,an⟩,0) by simp[pT,aN]);go_enter func177,ntmps177
   go_wp2_with fail
   exact bI (v:=bj #[aF #[dD,e4,an],()]) (by simp[results,results177,go_sem]) rfl ⟨by rw[aX];rfl,(aG _).aZ.aZ.aZ.aZ⟩
  .have aX:=I (show pT ⟨rK,tO⟩ ⟨18,n⟩ ⟨dD,e4,an⟩ ⟨hc,be,ew⟩=(⟨hc,be,ew⟩,0) by simp[pT,aN]);go_enter func177,ntmps177
   go_wp2_with fail
   exact bI (v:=bj #[aF #[hc,be,ew],()]) (by simp[results,results177,go_sem]) rfl ⟨by rw[aX];rfl,(aG _).aZ.aZ.aZ.aZ⟩
 .clear bN bJ j1 af aA;obtain⟨z,bP⟩:∃z,z=(rN (decide (an=ew))).n:=⟨_,rfl⟩;have aX:=I (show pT ⟨rK,tO⟩ ⟨19,n⟩ ⟨dD,e4,an⟩ ⟨hc,be,ew⟩=(⟨1,0,z⟩,0) by rw[bP];rfl);have dv:=I (show∀b:Bool,(b=true↔an=ew)->(rN b).n=z from λb af=>by rw[bP,show decide (an=ew)=b by rw[nZ,gg,af]]);clear bP;rw[aX];go_enter func177,ntmps177
  go_wp2_with (go_at_call 184;refine (c8 _ _).mono ?_;rw[dv _ (by simp)];rintro y w1⟨rfl,au⟩;obtain⟨dE,jk⟩:=Kept.cells au;have cG:=au.size;(try simp at cG))
  exact bI (v:=bj #[aF #[ah 1,(),ah z],()]) (by simp[results,results177,go_sem,dE]) rfl ⟨rfl,(aG _).aZ.aZ.aZ.aZ.trans au|>.sc (by omega)|>.sc (by omega)|>.sc (by omega)⟩
 .clear bN bJ j1 af aA;obtain⟨z,bP⟩:∃z,z=(rN (decide (an≠ew))).n:=⟨_,rfl⟩;have aX:=I (show pT ⟨rK,tO⟩ ⟨20,n⟩ ⟨dD,e4,an⟩ ⟨hc,be,ew⟩=(⟨1,0,z⟩,0) by rw[bP];rfl);have dv:=I (show∀b:Bool,(b=true↔an≠ew)->(rN b).n=z from λb af=>by rw[bP,show decide (an≠ew)=b by rw[nZ,gg,af]]);clear bP;rw[aX];go_enter func177,ntmps177
  go_wp2_with (go_at_call 184;refine (c8 _ _).mono ?_;rw[dv _ (by simp)];rintro y w1⟨rfl,au⟩;obtain⟨dE,jk⟩:=Kept.cells au;have cG:=au.size;(try simp at cG))
  exact bI (v:=bj #[aF #[ah 1,(),ah z],()]) (by simp[results,results177,go_sem,dE]) rfl ⟨rfl,(aG _).aZ.aZ.aZ.aZ.trans au|>.sc (by omega)|>.sc (by omega)|>.sc (by omega)⟩
 .clear bN bJ j1 af aA;obtain⟨z,bP⟩:∃z,z=(rN (decide (an<ew))).n:=⟨_,rfl⟩;have aX:=I (show pT ⟨rK,tO⟩ ⟨21,n⟩ ⟨dD,e4,an⟩ ⟨hc,be,ew⟩=(⟨1,0,z⟩,0) by rw[bP];rfl);have dv:=I (show∀b:Bool,(b=true↔an<ew)->(rN b).n=z from λb af=>by rw[bP,show decide (an<ew)=b by rw[nZ,gg,af]]);clear bP;rw[aX];go_enter func177,ntmps177
  go_wp2_with (go_at_call 184;refine (c8 _ _).mono ?_;rw[dv _ (by simp)];rintro y w1⟨rfl,au⟩;obtain⟨dE,jk⟩:=Kept.cells au;have cG:=au.size;(try simp at cG))
  exact bI (v:=bj #[aF #[ah 1,(),ah z],()]) (by simp[results,results177,go_sem,dE]) rfl ⟨rfl,(aG _).aZ.aZ.aZ.aZ.trans au|>.sc (by omega)|>.sc (by omega)|>.sc (by omega)⟩
 .clear bN bJ j1 af aA;obtain⟨z,bP⟩:∃z,z=(rN (decide (an<=ew))).n:=⟨_,rfl⟩;have aX:=I (show pT ⟨rK,tO⟩ ⟨22,n⟩ ⟨dD,e4,an⟩ ⟨hc,be,ew⟩=(⟨1,0,z⟩,0) by rw[bP];rfl);have dv:=I (show∀b:Bool,(b=true↔an<=ew)->(rN b).n=z from λb af=>by rw[bP,show decide (an<=ew)=b by rw[nZ,gg,af]]);clear bP;rw[aX];go_enter func177,ntmps177
  go_wp2_with (go_at_call 184;refine (c8 _ _).mono ?_;rw[dv _ (by simp)];rintro y w1⟨rfl,au⟩;obtain⟨dE,jk⟩:=Kept.cells au;have cG:=au.size;(try simp at cG))
  exact bI (v:=bj #[aF #[ah 1,(),ah z],()]) (by simp[results,results177,go_sem,dE]) rfl ⟨rfl,(aG _).aZ.aZ.aZ.aZ.trans au|>.sc (by omega)|>.sc (by omega)|>.sc (by omega)⟩
 .clear bJ j1 af aA;have cU:=I (λw bN=>aaF an ew w bN);have aX:=I (show pT ⟨rK,tO⟩ ⟨28,n⟩ ⟨dD,e4,an⟩ ⟨hc,be,ew⟩=(⟨5,0,(pR an ew).1⟩,(pR an ew).2)from rfl);rw[aX];generalize pR an ew=R at*;obtain⟨bQ,cx⟩:=R;go_enter func177,ntmps177
  go_wp2_with (go_at_call 187;refine (cU _ (cB.kept ((aG _).aZ.aZ.aZ.aZ))).mono ?_;rintro y w1⟨rfl,rfl⟩)
  exact bI (v:=bj #[aF #[ah 5,(),bQ],cx]) (by simp[results,results177,go_sem]) rfl ⟨rfl,(aG _).aZ.aZ.aZ.aZ⟩
 .clear bJ j1 af aA;have cU:=I (λw bN=>aqU an ew w bN);have aX:=I (show pT ⟨rK,tO⟩ ⟨30,n⟩ ⟨dD,e4,an⟩ ⟨hc,be,ew⟩=(⟨2,0,C' an ew⟩,0)from rfl);rw[aX];generalize C' an ew=R at*;go_enter func177,ntmps177
  go_wp2_with (go_at_call 188;refine (cU _ (cB.kept ((aG _).aZ.aZ.aZ.aZ))).mono ?_;rintro y w1⟨rfl,rfl⟩)
  exact bI (v:=bj #[aF #[ah 2,(),R],()]) (by simp[results,results177,go_sem]) rfl ⟨rfl,(aG _).aZ.aZ.aZ.aZ⟩
def aiU(f t:J)(w:ag):bg 106 #[aF #[f,t]] w λx w'=>x=bL (bR (decide (0<=f/\f<=t/\t<=109573)))/\Kept w w':=by
 go_enter func106,ntmps106
 go_wp2_with fail
 all_goals
  go_ret;exact⟨fG (by (rw[nZ];(try simp at*);(try omega))),(aG _).aZ⟩
def Vq(f t d:J)(w:ag):bg 127 #[aF #[f,t],d] w λx w'=>x=bL (bR (Ai f t d))/\Kept w w':=by
 obtain⟨q,az⟩:∃q,q=decide (0<=f/\f<=t/\t<=109573):=⟨_,rfl⟩;have fE:=I (λw=>aiU f t w);rw[<-az]at fE;have b1:=I az;clear az
 cases q
 all_goals
  go_enter func127,ntmps127
  go_wp2_with (go_at_call 106;refine (fE _).mono ?_;rintro y w1⟨rfl,au⟩;obtain⟨dE,jk⟩:=Kept.cells au;have cG:=au.size;(try simp at cG))
  all_goals
   go_ret;have az:=b1.out;clear fE b1;exact⟨fG (by unfold Ai;(try clear dE jk);simp at az;(rw[nZ];(try simp at*);(try omega))),(aG _).aZ.trans au⟩
def pX{α:Type}(p:α->Bool):List α->aa->Option aa
 |[],_=>none
 |x::r,i=>if p x then some i else pX p r (i+1)
def abT{α:Type}{p:α->Bool}{xs:List α}{i:aa}{x:α}(h:xs[i]?=some x):pX p (xs.drop i) i=if p x then some i else pX p (xs.drop (i+1)) (i+1):=by
 obtain⟨aD,rfl⟩:=b2 h;rw[jA aD,pX]
def abU{α:Type}{p:α->Bool}{xs:List α}{i:aa}(h:¬i<xs.length):pX p (xs.drop i) i=none:=by
 rw[zF.2 (by omega)];rfl
theorem abV{α:Type}{p:α->Bool}:∀(xs pre:List α),match pX p xs pre with
  |none=>xs.find? p=none
  |some k=>∃x,(pre++xs)[k]?=some x/\xs.find? p=some x
 |[],pre=>rfl
 |x::r,pre=>by
  unfold pX;by_cases h:p x=true
  .rw[aP h];exact⟨x,by simp,by rw[List.find?_cons,h]⟩
  .rw[aw h];have bO:=abV (p:=p) r (pre++[x]);rw[fk,sy]at bO;have ec:p x=false:=by simpa using h
   cases bV:pX p r (pre.length+1)with
   |none=>rw[bV]at bO;simp only at bO⊢;rw[List.find?_cons,ec];exact bO
   |some k=>
    rw[bV]at bO;obtain⟨y,ab,ad⟩:=bO;exact⟨y,by simpa using ab,by rw[List.find?_cons,ec];exact ad⟩
def JK(o:Option aa):ak:=match o with
 |none=> .tuple #[(),.bool false]
 |some k=> .tuple #[.int .i64 (k:aa),.bool true]
def B0{α:Type}(p:α->Bool)(xs:List α)(w:ag)(e:Ending)(w':ag):Prop:=e=bL (JK (pX p xs 0))/\Kept w w'
def AX(r:nE):ak:=aF #[r.cZ,r.cT,r.e2,r.aD,r.n]
def amp(r:nE)(p q:Addr)(d k:J)(w:ag)(hp:p.spot=none/\p.block<w.heap.size/\aU w p=some (ah d))(az:q.spot=none/\q.block<w.heap.size/\aU w q=some (ah k)):
  bg 181 #[AX r,.pointer (some p),.pointer (some q)] w λx w'=>x=bL (bR (wB d k r))/\Kept w w':=by
 obtain⟨cZ,cT,e2,aD,n⟩:=r;obtain⟨j1,auL,ps⟩:=p;obtain⟨tl,vl,avG⟩:=q;obtain⟨rfl,xz,we⟩:=hp;obtain⟨rfl,jn,iX⟩:=az;dsimp only at xz jn;have fE:=I (λw=>Vq cZ cT d w)
 cases aq:Ai cZ cT d
 all_goals
  rw[aq]at fE;have ct:=I aq;clear aq;unfold AX;go_enter func181,ntmps181
  go_wp2_with (go_at_call 127;refine (fE _).mono ?_;rintro y w1⟨rfl,au⟩;obtain⟨dE,jk⟩:=Kept.cells au;have cG:=au.size;(try simp at cG))
  all_goals
   go_ret;have aq:=ct.out;clear fE ct;exact⟨fG (by unfold wB;rw[aq];(try clear dE jk);clear we iX;(rw[nZ];(try simp at*);(try omega))),(aG _).aZ.trans au⟩
def c0.at_{α:Type}{k:aa}{P:ag->aa->aa->α->Prop}{w:ag}{v:ak}{xs:List α}(h:c0 k P w v xs):∃A cap,v=ae A xs cap/\xs.length<=cap/\xs.length<=8796093022208/\(0<xs.length->∃b off,A=some ⟨b,off,none⟩/\b<w.heap.size/\∀j x,xs[j]?=some x->P w b (off+j*k) x):=h
def ajj(v:ak)(rs:List nE)(p q:Addr)(d k:J)(w:ag)(bH:c0 5 oG w v rs)(hp:p.spot=none/\p.block<w/\aU w p=some (ah d))(az:q.spot=none/\q.block<w/\aU w q=some (ah k)):
 bg 107 #[v,.func (.func 181) #[] #[.pointer (some p),.pointer (some q)]] w (B0 (wB d k) rs w):=by
 unfold B0;obtain⟨A,cap,rfl,xt,av,a7⟩:=bH.at_;have ct:=I (λ(r:nE)w1(h:Kept w w1)=>amp r p q d k w1 ⟨hp.1,bG hp.2.1 h.size,h.cell hp.2.1 hp.2.2⟩ ⟨az.1,bG az.2.1 h.size,h.cell az.2.1 az.2.2⟩);obtain⟨n,aH⟩:∃n,n=rs.length:=⟨_,rfl⟩;rw[<-aH]at a7 xt av⊢;have b3:=I aH;clear aH bH hp az;go_enter func107,ntmps107
 go_wp2_with fail
 go_loopw [10] (λz wr=>∃i:aa,i<=n/\z=ah i/\Kept w wr/\pX (wB d k) (rs.drop i) i=pX (wB d k) rs 0) (λz _=>(n-intOf z).toNat)
 case atStart=>exact⟨0,d' _,rfl,aG _,rfl⟩
 case round=>
  obtain⟨i,dG,rfl,ax,a6⟩:=hrel;by_cases aN:i<n
  .obtain⟨b,off,rfl,af,aj⟩:=a7 (by omega);have al:rs[i]?=some (rs[i]'(by have:=b3.out;omega)):=bn _;rw[abT al]at a6;obtain⟨⟨bX,-⟩,⟨bQ,-⟩,⟨cx,-⟩,⟨hx,-⟩,⟨hK,-⟩⟩:=aj i _ al;generalize rs[i]'(by have:=b3.out;omega)=r at*;have iI:=bX.kept ax af;have kk:=bQ.kept ax af;have lf:=cx.kept ax af;have Lq:=hx.kept ax af;have Lr:=hK.kept ax af;unfold g' at iI kk lf Lq Lr;have qG:=bG af ax.size;have db:(i:J)<n:=by omega
   have Fi:=I (ct r);have oQ:AX r=aF #[r.cZ,r.cT,r.e2,r.aD,r.n]:=rfl;rw[oQ]at Fi;clear aj a7 al bX bQ cx hx hK oQ
   cases Gy:wB d k r
   all_goals
    rw[Gy]at a6 Fi;clear Gy;simp only[k3,A7,sx]at a6;have fa:=I a6;clear a6;go_wp2_with (go_at_call 181;refine (Fi _ (Kept.trans ax ((aG _).aZ))).mono ?_;rintro y w2⟨rfl,bt⟩)
    first
     |(go_roundw
       case rel=>exact⟨i+1,aN,by go_num,ax.aZ.trans bt,fa⟩
       case measure=>simp[intOf];omega)
     |(go_ret2;exact⟨by rw[<-fa];rfl,ax.aZ.trans bt⟩)
  .have db:¬((i:J)<n):=by omega
   rw[abU (by have:=b3.out;omega)]at a6;have fa:=I a6;clear a6;go_wp2_with fail
   go_ret2
   exact⟨by rw[<-fa];rfl,ax⟩
def aiI(l n:J)(ab:0<l)(ad:l<=2000000000000000):∃(q r:J)(b:Bool),iT q/\iT r/\sD 182 #[l,n] (bj #[q,r,bR b]):=by
 obtain⟨N,rfl⟩:∃N:aa,l=N:=⟨l.toNat,by omega⟩;have avT:IntKind.u64.wrap (N:J)=N:=wrapN (by omega);obtain⟨Ig,tT,hD⟩:=k2 n;obtain⟨S,bH,aQ⟩:=k2 (if n<0 then -(Ig:J)else Ig);have sW:(¬n<0->Ig=S)/\(n<0->IntKind.u64.wrap (-(Ig:J))=S):=by
  refine⟨λh=> ?_,λh=> ?_⟩
  .rw[aw h,wrapN tT]at aQ;omega
  .rw[aP h]at aQ;exact aQ
 have hmul:=λw=>Sc N S (by omega) bH w;have y5:N*S/18446744073709551616<18446744073709551616:=by
  have:N*S<=2000000000000000*18446744073709551616:=Tt (by omega) (ui bH);omega
 have p1:N*S% 18446744073709551616<18446744073709551616:=Nat.mod_lt _ (by decide);generalize N*S/18446744073709551616=dY at*;generalize N*S% 18446744073709551616=ys at*;have sI:=I hmul;clear hmul aQ;by_cases nI:1000000<=dY
 .have kG:(1000000:J)<=dY:=by omega
  refine⟨0,0,false,⟨by decide,by decide⟩,⟨by decide,by decide⟩,λw=> ?_⟩;by_cases nJ:n<0
  case' pos=>have a_:=sW.2 nJ
  case' neg=>obtain rfl:=sW.1 nJ
  all_goals
   clear sW tT y5 p1 bH nI
   (try clear az cL aJ)
   go_enter func182,ntmps182
   go_wp2_with (go_at_call 197;refine (sI _).mono ?_;rintro y w1⟨rfl,rfl⟩)
   go_ret3
   exact⟨rfl,aG _⟩
 have kG:decide ((1000000:J)<=dY)=false:=jC (by omega);obtain⟨Q,R,cL,aJ,iW⟩:=VF dY ys 1000000 (by omega) p1 (by omega);rw[show ((1000000:aa):J)=1000000 from rfl]at iW;have q5:=I iW;clear iW;by_cases az:1000000000000000<Q
 .have wg:(1000000000000000:J)<Q:=by omega
  refine⟨0,0,false,⟨by decide,by decide⟩,⟨by decide,by decide⟩,λw=> ?_⟩;by_cases nJ:n<0
  case' pos=>have a_:=sW.2 nJ
  case' neg=>obtain rfl:=sW.1 nJ
  all_goals
   clear sW tT y5 p1 bH nI
   (try clear az cL aJ)
   go_enter func182,ntmps182
   go_wp2_with (first|(go_at_call 197;refine (sI _).mono ?_;rintro y w1⟨rfl,rfl⟩)|(go_at_call 198;refine (q5 _).mono ?_;rintro y w1⟨rfl,au⟩))
   go_ret3
   exact⟨rfl,au⟩
 have wg:¬(1000000000000000:J)<Q:=by omega
 obtain⟨oy,xA,er0,arw⟩:=C9 (R:J);obtain⟨hh,pt,er1,ai1⟩:=C9 (-oy);by_cases nJ:n<0
 .have a_:=sW.2 nJ;refine⟨-(Q:J),hh,true,⟨by omega,by omega⟩,pt,λw=> ?_⟩;clear sW tT y5 p1 bH aJ xA pt nI az cL;go_enter func182,ntmps182
  go_wp2_with (first|(go_at_call 197;refine (sI _).mono ?_;rintro y w1⟨rfl,rfl⟩)|(go_at_call 198;refine (q5 _).mono ?_;rintro y w1⟨rfl,au⟩))
  go_ret3
  exact⟨rfl,au⟩
 .obtain rfl:=sW.1 nJ;refine⟨(Q:J),oy,true,⟨by omega,by omega⟩,xA,λw=> ?_⟩;clear sW tT y5 p1 bH aJ xA pt er1 ai1 nI az cL;go_enter func182,ntmps182
  go_wp2_with (first|(go_at_call 197;refine (sI _).mono ?_;rintro y w1⟨rfl,rfl⟩)|(go_at_call 198;refine (q5 _).mono ?_;rintro y w1⟨rfl,au⟩))
  go_ret3
  exact⟨rfl,au⟩
def an8(a b m:J)(af:iT b):∃q c:J,iT q/\sD 183 #[a,b,m] (bj #[q,c]):=by
 have hd: -1000000<b.tmod 1000000/\b.tmod 1000000<1000000:=by
  have ab:=Int.tmod_lt_of_pos b (show (0:J)<1000000 by decide);have ad:=Int.lt_tmod_of_pos b (show (0:J)<1000000 by decide);omega
 obtain⟨ra,I5⟩:∃ra,b.tdiv 1000000=ra:=⟨_,rfl⟩;obtain⟨M2,Mr⟩:∃M2,b.tmod 1000000=M2:=⟨_,rfl⟩;have qF:=Int.tmod_add_mul_tdiv b 1000000;rw[Mr]at hd;rw[I5,Mr]at qF;have m3: -9223372036856<ra:=by have:=af.1;omega
 have m4:ra<9223372036856:=by have:=af.2;omega
 clear qF;obtain⟨W,fT,aQ,sW⟩:=C9 (a+ra);obtain⟨m1,m2⟩:=hd;by_cases aC:W< -2000000000000000\/2000000000000000<W
 .refine⟨0,3,⟨by decide,by decide⟩,λw=> ?_⟩;rcases (show W< -2000000000000000\/(¬W< -2000000000000000/\2000000000000000<W) by omega)with h|⟨h,ec⟩
  all_goals
   clear aC af fT;go_enter func183,ntmps183
   go_wp2_with fail
   go_ret2
   exact⟨rfl,aG _⟩
 have w1:¬W< -2000000000000000:=by omega
 have w2:¬2000000000000000<W:=by omega
 have we: -2<W.tmod 2/\W.tmod 2<2:=by
  have ab:=Int.tmod_lt_of_pos W (show (0:J)<2 by decide);have ad:=Int.lt_tmod_of_pos W (show (0:J)<2 by decide);omega
 obtain⟨H7,hP0⟩:∃H7,W.tmod 2=H7:=⟨_,rfl⟩;rw[hP0]at we;obtain⟨dM,dQ⟩:=we;obtain⟨P,eJ⟩:∃P,P=if 1<W then H7+2 else if W< -1 then H7-2 else H7:=⟨_,rfl⟩;have Wx: -4<P/\P<4:=by rw[eJ];split<;>(try split)<;>omega
 obtain⟨fP,kW⟩:=Wx;obtain⟨D,cY⟩:∃D,D=P*1000000+M2:=⟨_,rfl⟩;obtain⟨q,cF,az,iW⟩:=Qf D 1000000 m ⟨by omega,by omega⟩ ⟨by decide,by decide⟩;rw[cY]at iW;clear cY;have cU:=I iW;obtain⟨Z,lE,a_,e2'⟩:=C9 (W-P+q);have dU:=I eJ;have WN:∀w,(cF=0-> -1000000000000000<=Z->Z<=1000000000000000->bg 183 #[a,b,m] w λe w'=>e=bL (bj #[Z,()])/\Kept w w')/\
   (cF=0->(Z< -1000000000000000\/1000000000000000<Z)->bg 183 #[a,b,m] w λe w'=>e=bL (bj #[(),ah 3])/\Kept w w')/\
   ((cF !=0)=true->bg 183 #[a,b,m] w λe w'=>e=bL (bj #[(),cF])/\Kept w w'):=by
  intro w;clear iW eJ af fT aC lE az;have ao:(1<W/\W% 2=H7)\/(¬1<W/\W< -1)\/(¬1<W/\¬W< -1):=by
   rcases afD 1 W with h|h
   .exact .inl ⟨h,by rw[<-OF (by omega)];exact hP0⟩
   .omega
  refine⟨λlj fL z2=> ?_,λlj bP=> ?_,λlj=> ?_⟩
  case refine_1=>
   subst lj;have z3:¬Z< -1000000000000000:=by omega
   have z4:¬1000000000000000<Z:=by omega
   rcases ao with⟨h,ec⟩|⟨h,ec⟩|⟨h,ec⟩
   all_goals
    have sb:=dU.out
    first|rw[aP h]at sb|rw[aw h,aP ec]at sb|rw[aw h,aw ec]at sb
    subst sb;clear dU;go_enter func183,ntmps183
    go_wp2_with (go_at_call 199;refine (cU _).mono ?_;rintro y w1⟨rfl,au⟩)
    go_ret2
    exact⟨rfl,au⟩
  case refine_2=>
   subst lj;rcases (show Z< -1000000000000000\/(¬Z< -1000000000000000/\1000000000000000<Z) by omega)with z|⟨z,avW⟩
   all_goals
    clear bP;rcases ao with⟨h,ec⟩|⟨h,ec⟩|⟨h,ec⟩
    all_goals
     have sb:=dU.out
     first|rw[aP h]at sb|rw[aw h,aP ec]at sb|rw[aw h,aw ec]at sb
     subst sb;clear dU;go_enter func183,ntmps183
     go_wp2_with (go_at_call 199;refine (cU _).mono ?_;rintro y w1⟨rfl,au⟩)
     go_ret2
     exact⟨rfl,au⟩
  case refine_3=>
   rcases ao with⟨h,ec⟩|⟨h,ec⟩|⟨h,ec⟩
   all_goals
    have sb:=dU.out
    first|rw[aP h]at sb|rw[aw h,aP ec]at sb|rw[aw h,aw ec]at sb
    subst sb;clear dU;go_enter func183,ntmps183
    go_wp2_with (go_at_call 199;refine (cU _).mono ?_;rintro y w1⟨rfl,au⟩)
    go_ret2
    exact⟨rfl,au⟩
 by_cases lj:cF=0
 .by_cases bP:Z< -1000000000000000\/1000000000000000<Z
  .exact⟨0,3,⟨by decide,by decide⟩,λw=>(WN w).2.1 lj bP⟩
  .exact⟨Z,0,lE,λw=>(WN w).1 lj (by omega) (by omega)⟩
 .exact⟨0,cF,⟨by decide,by decide⟩,λw=>(WN w).2.2 (by simpa using lj)⟩
open Classical in
noncomputable def yO(l n:J):J×J×Bool:=if h:∃r:J×J×Bool,sD 182 #[l,n] (bj #[r.1,r.2.1,bR r.2.2])then Classical.choose h else (0,0,false)
def ahI{l n:J}(ab:0<l)(ad:l<=2000000000000000):sD 182 #[l,n] (bj #[ah (yO l n).1,ah (yO l n).2.1,bR (yO l n).2.2]):=by
 have h:∃r:J×J×Bool,sD 182 #[l,n] (bj #[r.1,r.2.1,bR r.2.2]):=by
  obtain⟨q,r,b,_,_,h⟩:=aiI l n ab ad;exact⟨(q,r,b),h⟩
 unfold yO;rw[dif_pos h];exact Ot h
open Classical in
noncomputable def JU(a b m:J):J×J:=if h:∃r:J×J,sD 183 #[a,b,m] (bj #[r.1,r.2])then Classical.choose h else (0,0)
def aoo{a b m:J}(af:iT b):sD 183 #[a,b,m] (bj #[ah (JU a b m).1,ah (JU a b m).2]):=by
 have h:∃r:J×J,sD 183 #[a,b,m] (bj #[r.1,r.2]):=by
  obtain⟨q,r,_,h⟩:=an8 a b m af;exact⟨(q,r),h⟩
 unfold JU;rw[dif_pos h];exact Ot h
noncomputable def yF(d c:J):List nE->J->J->Option (J×J)
 |[],a,b=>some (a,b)
 |r::rs,a,b=>
  if Ai r.cZ r.cT d=false\/min r.aD c<=max r.e2 0 then yF d c rs a b
  else if (yO (min r.aD c-max r.e2 0) r.n).2.2 then yF d c rs (wrap64 (a+(yO (min r.aD c-max r.e2 0) r.n).1)) (wrap64 (b+(yO (min r.aD c-max r.e2 0) r.n).2.1))else none
noncomputable def yG(t:lB)(d c m:J):J×J:=match yF d c t.rows 0 0 with
 |none=>(0,3)
 |some x=>JU x.1 x.2 m
def ahD{d c a b:J}{xs:List nE}{i:aa}{r:nE}(h:xs[i]?=some r):yF d c (xs.drop i) a b=if Ai r.cZ r.cT d=false\/min r.aD c<=max r.e2 0 then yF d c (xs.drop (i+1)) a b
  else if (yO (min r.aD c-max r.e2 0) r.n).2.2 then yF d c (xs.drop (i+1)) (wrap64 (a+(yO (min r.aD c-max r.e2 0) r.n).1)) (wrap64 (b+(yO (min r.aD c-max r.e2 0) r.n).2.1))else none:=by
 obtain⟨aD,rfl⟩:=b2 h;rw[jA aD,yF]
def ahE(aM:ez)(cD:ak)(rs:List nE)(d c m:J)(w:ag)(bH:c0 5 oG w cD rs)(hm:0<=m/\m<=5)(jv: -1000000000000000<=c/\c<=1000000000000000)(t:lB)(cr:t.rows=rs):
  Calls prog 175 #[.agg #[aM,.int .i64 3,(),.int .i64 4,(),cD],d,c,m] w λx w'=>x= .returned (.tuple #[.int .i64 (yG t d c m).1,.int .i64 (yG t d c m).2])/\Kept w w':=by
 have aX:=I (show yG t d c m=match yF d c rs 0 0 with|none=>(0,3)|some x=>JU x.1 x.2 m by unfold yG;rw[cr]);generalize yG t d c m=R at*;obtain⟨yw,Ia⟩:=R;obtain⟨A,cap,rfl,xt,av,a7⟩:=bH.at_;obtain⟨n,aH⟩:∃n,n=rs.length:=⟨_,rfl⟩;rw[<-aH]at a7 xt av⊢;have b3:=I aH;obtain⟨m1,m2⟩:=hm;obtain⟨aY,a'⟩:=jv;have m3:¬m<0:=by omega
 have m4:¬5<m:=by omega
 have bu:¬c< -1000000000000000:=by omega
 have b4:¬1000000000000000<c:=by omega
 clear aH bH cr;go_enter func175,ntmps175
 go_upto_region 8 with fail
 have e8:=I ((aG w).alloc (.cells #[aM,.int .i64 3,(),.int .i64 4,(),.slice A n cap] 97));go_wp2_with fail
 go_loopw [10,11,44] (λx y z wr=>∃(i:aa)(a b:J),i<=n/\z= .int .i64 i/\x= .int .i64 a/\y= .int .i64 b/\iT a/\iT b/\Kept w wr/\yF d c (rs.drop i) a b=yF d c rs 0 0) (λ_ _ z _=>(n-intOf z).toNat)
 case atStart=>exact⟨0,0,0,d' _,rfl,rfl,rfl,⟨by decide,by decide⟩,⟨by decide,by decide⟩,e8,rfl⟩
 case round=>
  obtain⟨i,a,b,dG,rfl,rfl,rfl,Ju,GH,ax,a6⟩:=hrel;by_cases aN:i<n
  .obtain⟨pS,off,rfl,af,aj⟩:=a7 (by omega);have al:rs[i]?=some (rs[i]'(by have:=b3.out;omega)):=bn _;rw[ahD al]at a6;obtain⟨⟨bX,-⟩,⟨bQ,-⟩,⟨cx,i2⟩,⟨hx,i3⟩,⟨hK,-⟩⟩:=aj i _ al;generalize rs[i]'(by have:=b3.out;omega)=r at*;have iI:=bX.kept ax af;have kk:=bQ.kept ax af;have lf:=cx.kept ax af;have Lq:=hx.kept ax af;have Lr:=hK.kept ax af;unfold g' at iI kk lf Lq Lr;obtain⟨cZ,cT,e2,aD,di⟩:=r;dsimp only at*;have qG:=bG af ax.size;have db:(i:J)<n:=by omega
   have Cd:=λw=>Vq cZ cT d w;obtain⟨F,atD⟩:∃F,max e2 0=F:=⟨_,rfl⟩;obtain⟨T,VN⟩:∃T,min aD c=T:=⟨_,rfl⟩;rw[atD,VN]at a6;have f0:0<=F:=by omega
   have f1:F<=9223372036854775807:=by have:=i2.2;omega
   have t0:T<=c:=by omega
   have t1: -9223372036854775808<=T:=by have:=i3.1;omega
   clear aj a7 al bX bQ cx hx hK i2 i3;go_upto_region 11 with fail
   generalize aL:wr.alloc _=W at*;obtain⟨hz,B⟩:=Kept.aQ aL;clear aL;have gj:=ax.trans hz;clear hz;have z2:=aS.cell B.lt (B.cell 2);have z3:=aS.cell B.lt (B.cell 3);refine nc (by kernel_rfl) (by kernel_rfl) ?_
   repeat (go_big_quiet_step (fail))
   refine f' ?_;rintro w2⟨⟨cj,eX⟩,aT⟩;obtain rfl:w2=cj:=aT;have bm:=B.kept eX;have s0:=gj.trans eX;obtain⟨Af,ni⟩:=bm.p;clear z2 z3 atD VN B eX gj
   cases aq:Ai cZ cT d
   case false=>
    rw[aq]at Cd;rw[aP (.inl aq)]at a6;have Bg:=I Cd;have fa:=I a6;clear Cd a6 aq;go_wp2_with (go_at_call 127;refine (Bg _).mono ?_;rintro y w1⟨rfl,au⟩)
    go_roundw
    case rel=>exact⟨i+1,a,b,aN,by go_num,rfl,rfl,Ju,GH,s0.trans au,fa⟩
    case measure=>simp[intOf];omega
   case true=>
    rw[aq]at Cd;have Bg:=I Cd;by_cases hft:T<=F
    .rw[aP (.inr hft)]at a6;have fa:=I a6;clear Cd a6 aq;go_wp2_with (go_at_call 127;refine (Bg _).mono ?_;rintro y w1⟨rfl,au⟩)
     go_roundw
     case rel=>exact⟨i+1,a,b,aN,by go_num,rfl,rfl,Ju,GH,s0.trans au,fa⟩
     case measure=>simp[intOf];omega
    .rw[aw (by rw[aq];simp only[Bool.true_eq_false,false_or];exact hft)]at a6;have jv:=ahI (l:=T-F) (n:=di) (by omega) (by omega);generalize yO (T-F) di=X at*;obtain⟨auW,lu,atY⟩:=X;dsimp only at a6 jv;have HCB:=I jv;obtain⟨a2,ia2,Al,ea'⟩:=C9 (a+auW);obtain⟨bW,ib2,ik,eb'⟩:=C9 (b+lu);rw[ea',eb']at a6;have cP:=I (λch(h:Kept w2 ch)=>bm.kept h);clear Cd aq jv
     cases atY
     case false=>
      rw[aw (by decide)]at a6;have cW:=I (show (yw,Ia)=((0:J),(3:J)) by have:=aX.out;rw[<-a6]at this;exact this);clear a6;go_wp2_with (first|(go_at_call 127;refine (Bg _).mono ?_;rintro y w1⟨rfl,au⟩;have Va:=(cP _ au).cell;have Vc:=(cP _ au).lt)|(go_at_call 182;refine (HCB _).mono ?_;rintro y ch⟨rfl,bF⟩))
      go_ret2
      obtain⟨rfl,rfl⟩:=A9 cW;exact⟨rfl,s0.trans au|>.trans bF⟩
     case true=>
      rw[aP rfl]at a6;have fa:=I a6;clear a6;go_wp2_with (first|(go_at_call 127;refine (Bg _).mono ?_;rintro y w1⟨rfl,au⟩;have Va:=(cP _ au).cell;have Vc:=(cP _ au).lt)|(go_at_call 182;refine (HCB _).mono ?_;rintro y ch⟨rfl,bF⟩))
      go_roundw
      case rel=>exact⟨i+1,a2,bW,aN,by go_num,rfl,rfl,ia2,ib2,s0.trans au|>.trans bF,fa⟩
      case measure=>simp[intOf];omega
  .have db:¬((i:J)<n):=by omega
   have he:yF d c rs 0 0=some (a,b):=by rw[<-a6,zF.2 (by have:=b3.out;omega)];rfl
   have o_:=I (aoo (a:=a) (m:=m) GH);have cW:=I (show JU a b m=(yw,Ia) by have:=aX.out;rw[he]at this;exact this.symm);rw[cW]at o_;clear a6 he;go_wp2_with (go_at_call 183;refine (o_ _).mono ?_;rintro y w1⟨rfl,au⟩)
   go_ret2
   exact⟨rfl,ax.trans au⟩
def amq(aM:ez)(dL eY cg bK:J)(cD:ak)(rs:List nE)(d k:J)(w:ag)(bH:c0 5 oG w cD rs):
  bg 174 #[aF #[aM,dL,eY,cg,bK,cD],d,k] w (B0 (wB d k) rs w):=by
 unfold B0;have bM:=I (λ(p q:Addr)(w1:ag)(h:Kept w w1)ab ad=>ajj cD rs p q d k w1 (bH.kept oG.kept h) ab ad);unfold B0 at bM;obtain⟨A,cap,rfl,-⟩:=bH.at_;clear bH
 cases bV:pX (wB d k) rs 0
 all_goals
  rw[bV]at bM;unfold JK at bM⊢;clear bV;go_enter func174,ntmps174
  go_wp2_with (go_at_call 107;refine (bM ⟨w.heap.size+1,0,none⟩ ⟨w.heap.size+1+1,0,none⟩ _ ((aG _).aZ.aZ.aZ) ⟨rfl,by simp,(Kept.xh (aG _)).2.1.cell 0⟩ ⟨rfl,by simp,(Kept.xh (aG _)).2.2.cell 0⟩).mono ?_;rintro y w1⟨rfl,au⟩)
  go_ret2
  exact⟨rfl,(aG _).aZ.aZ.aZ.trans au⟩
def je(w:ag)(v:ak)(E:dT):Prop:=∃b7 dy c1 cM bv,v=aF #[E.dt,b7,dy,c1,cM,bv]/\ft w b7 E.ins/\ft w dy E.ds/\kh w c1 E.ms/\mm w cM E.mt/\c0 6 ld w bv E.tb
def je.kept{w w':ag}{v:ak}{E:dT}(h:je w v E)(ai:Kept w w'):je w' v E:=by
 obtain⟨b7,dy,c1,cM,bv,aK,ab,ad,ao,aR,bw⟩:=h;exact⟨b7,dy,c1,cM,bv,aK,ab.kept ai,ad.kept ai,ao.kept ai,aR.kept ai,bw.kept ld.kept ai⟩
def ajf(o:J):o=7\/o=8\/o=33\/o=34\/o=36\/o=37\/o=38\/o=39\/(o≠7/\o≠8/\o≠33/\o≠34/\o≠36/\o≠37/\o≠38/\o≠39):=by omega
def ajg(o n:J)(bK:ak)(E:dT)(w:ag)(a1:je w bK E)(aH:iT n)(oS:o=34->0<=n):bg 155 #[aF #[o,n],bK] w λx w'=>x=bL (bR (sX ⟨o,n⟩ E))/\Kept w w':=by
 obtain⟨b7,dy,c1,cM,bv,rfl,ab,ad,ao,aR,bw⟩:=a1;obtain⟨dm,aY,rfl,-⟩:=ab.at_;obtain⟨dx,a',rfl,aE⟩:=ad.at_;obtain⟨dq,bu,rfl,-⟩:=ao.at_;obtain⟨fr,b4,rfl,-⟩:=aR.at_;obtain⟨e6,b_,rfl,-⟩:=bw.at_;clear ab ad ao aR bw;have hex:∀P:Bool,P=sX ⟨o,n⟩ E->P=(if o=7 then oi n E.ins
  else if o=8 then oi n E.ds&&decide ((E.ds[n.toNat]?.getD v0).k≠0)
  else if o=33 then oi n E.tb
  else if o=34 then decide (n/8<E.tb.length)
  else if 36<=o/\o<=39 then oi n E.mt
  else true):=λ_ h=>h
 obtain⟨R,aJ⟩:∃R,R=sX ⟨o,n⟩ E:=⟨_,rfl⟩;have gR:=hex R aJ;rw[<-aJ];clear hex aJ;unfold oi at gR;obtain⟨dt,ins,ds,ms,mt,tb⟩:=E;dsimp only at*;generalize ins.length=li at*;generalize tb.length=lt at*;generalize mt.length=lm at*;rcases ajf o with rfl|rfl|rfl|rfl|rfl|rfl|rfl|rfl|aA
 case inr.inl=>
  simp only[show¬(8:J)=7 by decide,sx,k3]at gR;by_cases ar:0<=n
  case neg=>
   have aX:=I (show R=false by rw[gR,jC (λh=>ar h.1)];rfl);clear gR oS aE;go_enter func155,ntmps155
   go_wp2_with fail
   go_ret;exact⟨fG aX.symm,(aG _).aZ.aZ⟩
  obtain⟨k,rfl⟩:∃k:aa,n=k:=⟨n.toNat,by omega⟩;rw[c7]at gR;by_cases aN:k<ds.length
  case neg=>
   have aX:=I (show R=false by rw[gR,jC (λh=>aN (by omega))];rfl);have lF:¬((k:J)<ds.length):=by omega
   clear gR oS aE;go_enter func155,ntmps155
   go_wp2_with fail
   go_ret;exact⟨fG aX.symm,(aG _).aZ.aZ⟩
  obtain⟨b,off,rfl,af,aj⟩:=aE (by omega);have al:ds[k]?=some ds[k]:=bn aN;rw[al,b9,jR ⟨ar,by omega⟩,Kf]at gR;obtain⟨bX,-,-⟩:=aj k _ al;have lF:(k:J)<ds.length:=by omega
  generalize ds[k]=V at*;have aX:=I gR;clear gR oS aj aE al;go_enter func155,ntmps155
  go_wp2_with fail
  go_ret;exact⟨fG (by rw[aX];clear aX bX;(rw[nZ];(try simp at*);(try omega))),(aG _).aZ.aZ⟩
 case inr.inr.inr.inr.inr.inr.inr.inr=>
  obtain⟨h01,h02,h03,h04,h05,h06,h07,h08⟩:=aA;rw[aw h01,aw h02,aw h03,aw h04,aw (by omega)]at gR;have aX:=I gR;clear gR aE oS;go_enter func155,ntmps155
  go_wp2_with fail
  go_ret;exact⟨fG aX.symm,(aG _).aZ.aZ⟩
 all_goals
  have aX:=I gR;clear gR aE
  (try (have nJ:0<=n:=oS rfl))
  (try (have xx:n.tdiv 8=n/8:=Hh (oS rfl)))
  obtain⟨jL,mA⟩:=aH;clear oS;go_enter func155,ntmps155
  go_wp2_with fail
  all_goals
   go_ret;have gR:=aX.out;clear aX
   (try simp at gR)
   exact⟨fG (by first|exact gR.symm|(rw[gR];clear gR;(rw[nZ];(try simp at*);(try omega)))),(aG _).aZ.aZ⟩
def ag3{p:bC->Bool}{xs:List bC}{i:aa}{x:bC}(h:xs[i]?=some x):(xs.drop i).all p=(p x&&(xs.drop (i+1)).all p):=by
 obtain⟨aD,rfl⟩:=b2 h;rw[jA aD,Hm]
def ag2(v:ak)(xs:List bC)(w:ag)(c6:ft w v xs)(av:xs.length<=8796093022208):bg 156 #[v] w λx w'=>x=bL (bR (xs.all iv))/\Kept w w':=by
 obtain⟨A,cap,rfl,a7⟩:=c6.at_;obtain⟨n,aH⟩:∃n,n=xs.length:=⟨_,rfl⟩;rw[<-aH]at a7 av⊢;have b3:=I aH;clear aH c6;obtain⟨R,aJ⟩:∃R,R=xs.all iv:=⟨_,rfl⟩;rw[<-aJ];have aX:=I (show (xs.drop 0).all iv=R by rw[aJ];rfl);clear aJ;go_enter func156,ntmps156
 go_wp2_with fail
 go_loopw [7] (λz wr=>∃i:aa,i<=n/\z=ah i/\Kept w wr/\(xs.drop i).all iv=R) (λz _=>(n-intOf z).toNat)
 case atStart=>exact⟨0,d' _,rfl,aG _,aX⟩
 case round=>
  obtain⟨i,dG,rfl,ax,a6⟩:=hrel;by_cases aN:i<n
  .obtain⟨b,off,rfl,af,aj⟩:=a7 (by omega);have al:xs[i]?=some (xs[i]'(by have:=b3.out;omega)):=bn _;rw[ag3 al]at a6;obtain⟨bX,bQ,cx⟩:=aj i _ al;generalize xs[i]'(by have:=b3.out;omega)=V at*;obtain⟨k,e,m⟩:=V;have iI:=ax.aI af bX;have kk:=ax.aI af bQ;have lf:=ax.aI af cx;dsimp only at iI kk lf;have qG:=bG af ax.size;have db:(i:J)<n:=by omega
   have dU:=I (λw=>EC k e m w);clear aj a7 al bX bQ cx
   cases hp:iv ⟨k,e,m⟩
   all_goals
    rw[hp]at a6 dU;clear hp;simp only[Kf,Bool.false_and]at a6;have fa:=I a6;clear a6;go_wp2_with (go_at_call 159;refine (dU _).mono ?_;rintro y w1⟨rfl,au⟩)
    first
     |(go_roundw
       case rel=>exact⟨i+1,aN,by go_num,ax.aZ.trans au,fa⟩
       case measure=>simp[intOf];omega)
     |(go_ret;exact⟨fG fa,ax.aZ.trans au⟩)
  .have db:¬((i:J)<n):=by omega
   have fa:=I (show R=true by rw[<-a6,zF.2 (by have:=b3.out;omega)];rfl);clear a6;go_wp2_with fail
   go_ret;exact⟨fG fa.symm,ax⟩
def Ib(w:ag)(v:ak)(x:br):Prop:=
 ∃sY tr,v=aF #[x.aM,x.bx,x.bJ,x.d_,x.cZ,x.cT,sY,tr,x.src]/\iU w sY x.g/\iU w tr x.v
def Ib.kept{w w':ag}{v:ak}{x:br}(h:Ib w v x)(ai:Kept w w'):Ib w' v x:=by
 obtain⟨sY,tr,aK,ab,ad⟩:=h;exact⟨sY,tr,aK,ab.kept ai,ad.kept ai⟩
def gw.at_{w:ag}{v:ak}{l:aW}(h:gw w v l):∃A cap,v=ae A l cap/\(0<l.length->∃b off,A=some ⟨b,off,none⟩/\b<w.heap.size/\∀j x,l[j]?=some x->aU w ⟨b,off+j,none⟩=some (ah x)):=by
 obtain⟨A,cap,aK,aj⟩:=h;refine⟨A,cap,aK,λhp=> ?_⟩;obtain⟨b,off,a7,af,aq⟩:=aj hp;refine⟨b,off,a7,af,λj x ay=> ?_⟩;have:=aq j x ay 0 _ rfl;rwa [jD,lT]at this
def l0(n:aa)(d:J):Bool:=decide (0<=d/\d<n)
def xl(n:aa)(r:br):aW:=(e_ (hZ r.g)).filter (l0 n)++(e_ (hZ r.v)).filter (l0 n)
def SJ(xs:List cw):(hZ xs).length<=xs.length:=by
 unfold hZ;rw[er];exact nX _ _
def abQ{l:aW}{i:aa}{x:J}(h:l[i]?=some x)(p:J->Bool):(l.take (i+1)).filter p=(l.take i).filter p++(if p x then [x]else []):=by
 rw[qZ,h,zA,x8];congr 1
 cases hp:p x<;>simp[hp]
def abP(l:aW)(p:J->Bool)(i:aa):((l.take i).filter p).length<=i:=fN (nX _ _) (by rw[gT];omega)
def tj(B:aa)(l:aW)(w:ag)(e:Ending)(w':ag):Prop:=∃u,e=bL u/\dj w' B u l/\Kept w w'
def dj.low{w:ag}{B ur:aa}{v:ak}{l:aW}(h:dj w B v l)(bc:ur<=B):dj w ur v l:=by
 refine⟨h.1,?_⟩;rcases h.2 with ad|⟨g,cap,cur,aK,af,ao⟩
 .exact .inl ad
 .exact .inr ⟨g,cap,cur,aK,fN bc af,ao⟩
def aiP(v:ak)(r:br)(n:aa)(w:ag)(aJ:Ib w v r)(D':r.g.length<=48)(GG:r.v.length<=48):bg 87 #[v,n] w (tj w (xl n r) w):=by
 obtain⟨sY,tr,rfl,aL,c6⟩:=aJ;have eQ:=I (λw1(h:Kept w w1)=>SI sY r.g w1 (aL.kept h));have fE:=I (λw1(h:Kept w w1)=>SI tr r.v w1 (c6.kept h));obtain⟨gC,gc,rfl,-⟩:=aL.1.at_;obtain⟨gx,eT,rfl,-⟩:=c6.1.at_;have bq:=fN (AY (hZ r.g)) (fN (SJ r.g) D');have b5:=fN (AY (hZ r.v)) (fN (SJ r.v) GG);obtain⟨R,aJ⟩:∃R,R=xl n r:=⟨_,rfl⟩;have aX:=I (show (e_ (hZ r.g)).filter (l0 n)++(e_ (hZ r.v)).filter (l0 n)=R from aJ.symm);rw[<-aJ];unfold aed at eQ fE;generalize e_ (hZ r.g)=dO at*;generalize e_ (hZ r.v)=fh at*;generalize r.g.length=oL at*;generalize r.v.length=dR at*;obtain⟨i0,aD,fY,cG,eM⟩:=hy Tryz.td;unfold tj;clear aJ aL c6;go_enter func87,ntmps87
 go_upto_region 1 with fail
 generalize aL:w.alloc _=W at*;obtain⟨aV,bo⟩:=Kept.aQ aL;clear aL;obtain⟨dX,cR⟩:=bo.p;go_upto_region 3 with (go_at_call 57;refine (eQ _ aV).mono ?_;rintro e w1⟨u1,u2,u3,rfl,-,yT,-,au⟩;obtain⟨dm,aY,rfl,ab⟩:=gw.at_ yT;have H1:=I ab;have dA:=I au;clear yT ab au)
 have bh:=bo.kept dA;have ca:=aV.trans dA;clear dX cR bo;obtain⟨dX,cR⟩:=bh.p;go_upto_region 4 with (go_at_call 57;refine (fE _ ca).mono ?_;rintro e w2⟨v1,v2,v3,rfl,-,B6,-,bt⟩;obtain⟨dx,a',rfl,ad⟩:=gw.at_ B6;have vL:=I ad;have hk:=I bt;clear B6 ad bt)
 have c3:=ca.trans hk;replace H1:Hid (0<dO.length->∃b off,dm=some ⟨b,off,none⟩/\b<w2.heap.size/\∀(j:aa)(x:J),dO[j]?=some x->aU w2 ⟨b,off+j,none⟩=some (ah x)):=I λhp=>by
  obtain⟨b,off,bD,af,aq⟩:=H1.out hp;exact⟨b,off,bD,bG af hk.size,λj x ay=>hk.aI af (aq j x ay)⟩
 clear dX cR bh eQ fE;go_wp2_with fail
 go_loopw [5,32] (λa y wr=>∃i:aa,y=ah i/\i<=dO.length/\Kept w2 wr/\dj wr w2 a ((dO.take i).filter (l0 n))) (λ_ y _=>dO.length-(intOf y).toNat)
 case atStart=>exact⟨0,rfl,d' _,aG _,qh _ _ _ _⟩
 case round=>
  obtain⟨i,rfl,dG,ax,dZ⟩:=hrel;by_cases aN:i<dO.length
  .obtain⟨c9,j0,rfl,fU,ef⟩:=H1.out (by omega);have al:dO[i]?=some (dO[i]'aN):=bn _;have bX:=ef i _ al;have T:=abQ al (l0 n);have L:((dO.take i).filter (l0 n)).length<=48+i:=by have a8:=abP dO (l0 n) i;omega
   generalize dO[i]'aN=X at*;have iI:=(ax).aI fU bX;have db:(i:J)<dO.length:=by omega
   have eG:=I dZ;have tB:=I ax;have c8:=I T;clear ef al bX dZ ax T;by_cases hp:0<=X/\X<n
   .obtain⟨dM,dQ⟩:=hp;have rz:l0 n X=true:=jR ⟨dM,dQ⟩;have dU:=I rz;clear rz;go_wp2_with (at_builtin;refine jB _ rfl (.tmp 43) (.tmp 45) 46 rfl w2 3 i0 () 1 8 underlying46 aD fY cG eM rfl (by decide) _ ((dO.take i).filter (l0 n)).length (((dO.take i).filter (l0 n)).map (.int .i64)) rfl (fX eG _) ⟨wr.heap.size,0,none⟩ 1 1 [ah X] rfl rfl (n0 _ _ _) (oY X) (by unfold maxLen;omega) (by omega) (by have:=tB.size;simp;omega) ?_;intro v' c4 gy cu _ dK;have cI:=I (bb gy (bb cu dK));clear gy cu dK)
    obtain⟨ab,ad,bw⟩:=cI.out;go_roundw
    case rel=>exact⟨i+1,rfl,aN,ll (tB.alloc _) (fX eG _) (bB _) ad,by rw[c8,dU,aP rfl];exact vq ab⟩
    case measure=>simp[intOf];omega
   .have rz:l0 n X=false:=jC hp;have az:X<0\/(0<=X/\¬(X<n)):=by omega
    have dU:=I rz;clear rz hp;rcases az with dM|⟨dM,dQ⟩
    .have fP:¬(0<=X):=by omega
     go_wp2_with fail
     go_roundw
     case rel=>exact⟨i+1,rfl,aN,tB,by rw[c8,dU,aw (by simp),hj];exact eG⟩
     case measure=>simp[intOf];omega
    .go_wp2_with fail
     go_roundw
     case rel=>exact⟨i+1,rfl,aN,tB,by rw[c8,dU,aw (by simp),hj];exact eG⟩
     case measure=>simp[intOf];omega
  .obtain rfl:i=dO.length:=by omega
   rw[x3]at dZ;have db:¬((dO:J)<dO.length):=by omega
   have Ud:=I dZ;have gO:=I ax;clear dZ ax aN db dG;go_wp2_with fail
   go_loopw [5,50] (λa y wr=>∃i:aa,y=ah i/\i<=fh.length/\Kept w2 wr/\dj wr w2 a (dO.filter (l0 n)++(fh.take i).filter (l0 n))) (λ_ y _=>fh.length-(intOf y).toNat)
   case atStart=>exact⟨0,rfl,d' _,gO,by rw[q0,Ke,hj];exact Ud⟩
   case round=>
    obtain⟨i,rfl,dG,ax,dZ⟩:=hrel;by_cases aN:i<fh.length
    .obtain⟨c9,j0,rfl,fU,ef⟩:=vL.out (by omega);have al:fh[i]?=some (fh[i]'aN):=bn _;have bX:=ef i _ al;have T:=abQ al (l0 n);have L:(dO.filter (l0 n)++(fh.take i).filter (l0 n)).length<=48+i:=by rw[fk];have bd:=nX (l0 n) dO;have a8:=abP fh (l0 n) i;omega
     generalize fh[i]'aN=X at*;have iI:=(ax).aI fU bX;have db:(i:J)<fh.length:=by omega
     have eG:=I dZ;have tB:=I ax;have c8:=I T;clear ef al bX dZ ax T;by_cases hp:0<=X/\X<n
     .obtain⟨dM,dQ⟩:=hp;have rz:l0 n X=true:=jR ⟨dM,dQ⟩;have dU:=I rz;clear rz;go_wp2_with (at_builtin;refine jB _ rfl (.tmp 61) (.tmp 63) 46 rfl w2 3 i0 () 1 8 underlying46 aD fY cG eM rfl (by decide) _ (dO.filter (l0 n)++(fh.take i).filter (l0 n)).length ((dO.filter (l0 n)++(fh.take i).filter (l0 n)).map (.int .i64)) rfl (fX eG _) ⟨wr.heap.size,0,none⟩ 1 1 [ah X] rfl rfl (n0 _ _ _) (oY X) (by unfold maxLen;omega) (by omega) (by have:=tB.size;simp;omega) ?_;intro v' c4 gy cu _ dK;have cI:=I (bb gy (bb cu dK));clear gy cu dK)
      obtain⟨ab,ad,bw⟩:=cI.out;go_roundw
      case rel=>exact⟨i+1,rfl,aN,ll (tB.alloc _) (fX eG _) (bB _) ad,by rw[c8,dU,aP rfl,<-nY];exact vq ab⟩
      case measure=>simp[intOf];omega
     .have rz:l0 n X=false:=jC hp;have az:X<0\/(0<=X/\¬(X<n)):=by omega
      have dU:=I rz;clear rz hp;rcases az with dM|⟨dM,dQ⟩
      .have fP:¬(0<=X):=by omega
       go_wp2_with fail
       go_roundw
       case rel=>exact⟨i+1,rfl,aN,tB,by rw[c8,dU,aw (by simp),hj];exact eG⟩
       case measure=>simp[intOf];omega
      .go_wp2_with fail
       go_roundw
       case rel=>exact⟨i+1,rfl,aN,tB,by rw[c8,dU,aw (by simp),hj];exact eG⟩
       case measure=>simp[intOf];omega
    .obtain rfl:i=fh.length:=by omega
     rw[x3]at dZ;have db:¬((fh:J)<fh.length):=by omega
     have eG:=I dZ;have tB:=I ax;clear dZ ax;go_wp2_with fail
     go_ret;exact⟨_,rfl,by rw[<-aX];exact dj.low eG c3.size,c3.trans tB⟩
end Go.Proofs.YtilhklpfkgbikaaGreatDoor
